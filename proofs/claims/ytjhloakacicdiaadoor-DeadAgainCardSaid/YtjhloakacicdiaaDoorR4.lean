/-
  What the functions that the law reaches compute,told by plain data;it holds of programs that pass the check of right form and are light.
-/
import Derived.Lib.AppendStr
import Derived.Lib.Hide
import Derived.Test.YtjhloakacicdiaaDoorR1
import Derived.Test.YtjhloakacicdiaaDoorR2
import Derived.Test.YtjhloakacicdiaaDoorR3
import Derived.Test.YtjhloakacicdiaaDoorS2
import Derived.WalkKit
import Derived.WalkSpells
set_option linter.unusedVariables false
set_option linter.unusedSimpArgs false
namespace Go.Proofs.YtjhloakacicdiaaDoor
open Go.AH
attribute [local irreducible] W RS
theorem liveDown_outs (bl:List BlockS):∀ (i:Nat) (st:LiveS),(liveDown bl i st).outs.length=st.outs.length:=by
  intro i
  induction i with
  | zero=>intro st;rfl
  | succ i ih =>
    intro st
    rw [liveDown,ih]
    unfold liveStep
    split
    · simp
    · rfl
theorem liveRun_len {bl:List BlockS} {a b:LiveS} (h:LiveRun bl a b):b.outs.length=a.outs.length:=by
  induction h with
  | stop h=>unfold liveRound;rw [liveDown_outs]
  | go _ _ ih=>rw [ih];unfold liveRound;rw [liveDown_outs]
theorem once_push {B B9 B10 H11 B12 H13:Hp} {A7:Option Addr} {s':SetS} {acc:List InsV} {r:Nat} (O9:Old B B9) (o10:Old B9 B10) (ho11:OffS (SN A7) B10 H11) (hA7:∀ j,SN A7 j→B.n≤j) (o12:Old H11 B12) (hs11:SetAt H11 A7 s') (hd12:∀ i b,B12.m i=some b→i < B12.n) (hd11:∀ i b,H11.m i=some b→i < H11.n)
    (hr12:acc≠[]→B12.m r=some ⟨⟨(acc.map insVC).flatten⟩,58⟩) (hr:acc≠[]→B.n≤r) (hle13:B12.n≤H13.n) (hoff13:∀ i,i < B12.n→(acc.map insVC≠[]→i≠r)→H13.m i=B12.m i):Old B H13∧SetAt H13 A7 s'∧B.n≤B12.n:=by
  have O12:=((O9.trans o10).offS ho11 hA7).trans o12
  have hoffr:OffS (fun j=>acc≠[]∧j=r) B12 H13:=⟨hle13,fun j hj hS=>hoff13 j hj fun hn e=>hS ⟨fun e=>hn (by rw [e];rfl),e⟩⟩
  refine ⟨O12.offS hoffr fun j e=>by rw [e.2];exact hr e.1,?_,O12.1⟩
  have hs12:=setAt_up hs11 (o12.up hd11)
  cases hs12 with
  | none=>exact .none
  | some hm hr'=>exact .some (by rw [hoffr.2 _ (hd12 _ _ hm) fun e=>ne_of_elem hm (hr12 e.1) (by simp) e.2];exact hm) hr'
set_option maxHeartbeats 1600000 in
set_option maxRecDepth 100000 in
theorem once_ex (h:Hp) (bb:Nat) (bv:List BV) (f:FuncS) (A1:Option Addr) (c1:Nat) (A2:Option Addr) (c2 c3:Nat) (hfl:f.blocks=sL bv) (hpos:0 < bv.length) (hlen:bv.length≤100000)
    (hob:OwnB h bb bv) (hr0:0≤f.regs) (hr1:f.regs≤1000000) (htg:tgtOK (sL bv)) (hb4:∀ b∈sL bv,b.ins.length≤1000000) (hb5:∀ b∈sL bv,∀ x∈b.ins,x.args.length≤1000000∧fitI x.dst∧∀ a∈readsS x,fitI a.reg) (hb6:∀ b∈sL bv,∀ a∈treadsS b.term,fitI a.reg) :
    EX Tryd.prog 44 [.agg ⟨funcC f A1 c1 A2 c2 (some ⟨bb,0,none⟩) c3⟩] h (fun v h'=>∃ bv',v=.agg ⟨funcC { f with blocks:=sL bv' } A1 c1 A2 c2 (some ⟨bb,0,none⟩) c3⟩∧OwnB h' bb bv'∧OnceS f.regs (sL bv) (sL bv')∧OffS (fun j=>j=bb) h h'∧(∀ b∈bv',b.ins≠[]→h.n≤b.r)∧∀ b'∈bv',∀ x∈b'.ins,∃ b∈bv,x∈b.ins):=by
  refine EX.intro (fn:=Tryd.f44) (c:=(Tryd.f44.body.getD .skip)) Tryd.func44 (by kernel_rfl) Tryd.ntmps44 (by kernel_rfl) fun π s0=>?_
  conv=>arg 2;whnf
  have hd:=s0.dom
  have hfl':f.blocks.length=bv.length:=by rw [hfl,sL_length]
  have hpos':0 < (sL bv).length:=by rw [sL_length];omega
  have hlen':(sL bv).length≤100000:=by rw [sL_length];omega
  ((with_reducible apply W.seq);repeat (first|((with_reducible apply RS.alloc);iterate 2 exact rfl)|((with_reducible apply RS.box);iterate 3 exact rfl)|((with_reducible apply RS.nil);exact mixed;kernel_rfl)|((with_reducible apply W.reg);kernel_rfl)|(with_reducible apply thenK_n)))
  refine W.absorbX fun B0 π0 a0=>?_
  have hF0:B0.m (π 0)=some ⟨⟨funcC f A1 c1 A2 c2 (some ⟨bb,0,none⟩) c3⟩,37⟩:=a0.loc 0 (Nat.lt_of_lt_of_le Nat.zero_lt_one (Nat.le_succ 1))
  have hfb:h.n≤π 0:=a0.lo 0 (Nat.lt_of_lt_of_le Nat.zero_lt_one (Nat.le_succ 1))
  have hrb:h.n≤π 1:=a0.lo 1 (Nat.lt_succ_self 1)
  have hRb0:B0.m (π 1)=some ⟨⟨cellsV (.agg ⟨funcC ⟨⟨#[]⟩,0,0,0,[],[]⟩ none 0 none 0 none 0⟩)⟩,37⟩:=a0.loc 1 (Nat.lt_succ_self 1)
  have hfr:π 0≠π 1:=fun e=>absurd (a0.inj 0 1 (Nat.lt_of_lt_of_le Nat.zero_lt_one (Nat.le_succ 1)) (Nat.lt_succ_self 1) e) (by decide)
  generalize π 0=fb at *
  generalize π 1=rb at *
  have hRw:rwM≤rb:=Nat.le_trans s0.rw hrb
  have hFw:rwM≤fb:=Nat.le_trans s0.rw hfb
  have hfat:FAt B0 fb f.regs (some ⟨bb,0,none⟩) c3 (sL bv):=FunB.at ⟨hF0,hFw⟩ (hob.up a0.up) hfl'
  ((with_reducible apply W.seq);repeat (first|((with_reducible apply RS.callEx);(iterate 3 exact rfl);intro B1 hB1;refine ⟨_,live_ex fb f.regs (some ⟨bb,0,none⟩) c3 (sL bv) hpos' hlen' hr0 hr1 htg hb4 hb5 hb6 B1 (hfat.up hB1.up),?_⟩;rintro v H1 π1 ⟨ib,ob,ai,ao,ins,outs,rfl,hla,hrun⟩ sH1 hle1)|((with_reducible first|apply RS.move|apply RS.assign);iterate 3 exact rfl)|((with_reducible apply RS.extract);iterate 4 exact rfl)|((with_reducible apply RS.nil);exact mixed;kernel_rfl)|((with_reducible apply W.reg);kernel_rfl)|(with_reducible apply thenK_n)))
  generalize hLL:(emptyS f.regs).length=L at *
  have hL1:L≤1000000000:=by rw [← hLL,emptyS_length];omega
  have hUp1:=(hB1.oldH.trans hla.old).up a0.dom
  have hF1:=hUp1 _ _ hF0
  have hF1n:=sH1.dom _ _ hF1
  have old1:Old h H1:=a0.oldH.trans (hB1.oldH.trans hla.old)
  have hN1:h.n≤B1.n:=Nat.le_trans a0.le hB1.le
  have hI0:OnI h bb bv fb f A1 c1 A2 c2 c3 rb ob ao L h.n outs 0 bv H1 :=
    ⟨hob.up (old1.up hd),hF1,hUp1 _ _ hRb0,old1.off,⟨hla.o.m,hla.o.len,fun i a x h1 h2=>⟨(hla.o.pt i a x h1 h2).1,(hla.o.pt i a x h1 h2).2.1,Nat.le_trans hN1 (hla.o.pt i a x h1 h2).2.2⟩⟩,rfl,fun _ _=>rfl,(fun b hb=>by simp at hb),by simp,fun b hb x hx=>⟨b,hb,hx⟩⟩
  have hol:outs.length=bv.length:=by
    have:=liveRun_len hrun
    simp only [live0,List.length_replicate,sL_length] at this
    exact this
  have honce:OnceS f.regs (sL bv) (onceL (sL bv) outs):=.mk hrun
  rw [sL_length]
  clear hla hUp1 hB1
  rw [← hfl']
  ((with_reducible apply W.seq);repeat (fail))
  ((with_reducible apply W.seq);repeat (first|((with_reducible apply RS.load1B);(iterate 3 exact rfl);exact hF1;exact hF1n;exact rfl)|((with_reducible first|apply RS.move|apply RS.lenSl|apply RS.fieldAddr);iterate 3 exact rfl)|((with_reducible apply RS.nil);exact mixed;kernel_rfl)|((with_reducible apply W.reg);kernel_rfl)|(with_reducible first|apply W.block|apply thenK_n)))
  refine W.loopN (X:=Nat × List BV) (fun x=>[(1,.pointer (some ⟨fb,0,none⟩)),(2,.pointer (some ⟨rb,0,none⟩)),(4,.slice (some ⟨ob,0,none⟩) f.blocks.length f.blocks.length),(20,.int .i64 (f.blocks.length:Int)),(21,.int .i64 (x.1:Int))])
    (fun x B=>x.1≤bv.length∧OnI h bb bv fb f A1 c1 A2 c2 c3 rb ob ao L h.n outs x.1 x.2 B) (fun x=>bv.length - x.1)
    (fun B' a=>⟨(0,bv),?_,⟨Nat.zero_le _,hI0.up sH1.dom a.oldH⟩⟩) ?_
  · (repeat' (first|exact trivial|exact rfl|apply And.intro));done
  rintro ⟨i,bw⟩ B πB sB ⟨hi,hI⟩
  dsimp only at hi hI ⊢
  have hF:=hI.fm
  have hFn:=sB.dom _ _ hF
  by_cases hlt:i < bv.length
  · obtain ⟨b,hb⟩:∃ b,bv[i]?=some b:=⟨_,List.getElem?_eq_getElem hlt⟩
    have hbw:bw[i]?=some b:=by rw [hI.rest i (Nat.le_refl _)];exact hb
    obtain ⟨o,ho⟩:∃ o,outs[i]?=some o:=⟨_,List.getElem?_eq_getElem (by omega)⟩
    obtain ⟨xo,hxo⟩:∃ xo,ao[i]?=some xo:=⟨_,List.getElem?_eq_getElem (by rw [hI.so.len];omega)⟩
    have hMo:=hI.so.m
    have hMon:=sB.dom _ _ hMo
    have hoc:(ao.map (setV L))[0+i * 1]?=some (.slice (some ⟨xo,0,none⟩) L L):=by rw [Nat.zero_add,Nat.mul_one,List.getElem?_map,hxo];rfl
    obtain ⟨hom,hoL,hoN⟩:=hI.so.pt i xo o hxo ho
    have hbm:b.s∈sL bv:=List.mem_map_of_mem (List.mem_of_getElem? hb)
    have hbwm:=List.mem_of_getElem? hbw
    ((with_reducible apply W.seq);repeat (first|((with_reducible apply RS.cmpT);(iterate 4 exact rfl);(simp only [cmpP];omega))|((with_reducible apply RS.nil);exact mixed;kernel_rfl)|((with_reducible apply W.reg);kernel_rfl)|(with_reducible apply thenK_n)))
    ((with_reducible apply W.seq);repeat (first|(with_reducible first|apply W.skip|apply thenK_n)|((with_reducible apply W.condT);kernel_rfl;exact rfl)))
    ((with_reducible apply W.seq);repeat (first|(with_reducible apply W.block)))
    ((with_reducible apply W.seq);repeat (first|((with_reducible first|apply RS.move|apply RS.assign);iterate 3 exact rfl)|((with_reducible apply RS.nil);exact mixed;kernel_rfl)|((with_reducible apply W.reg);kernel_rfl)|(with_reducible apply thenK_n)))
    ((with_reducible apply W.seq);repeat (first|((with_reducible apply RS.load1B);(iterate 3 exact rfl);exact hF;exact hFn;exact rfl)|((with_reducible apply RS.indexAddrS);(iterate 5 exact rfl);omega)|((with_reducible first|apply RS.move|apply RS.assign|apply RS.fieldAddr);iterate 3 exact rfl)|((with_reducible apply RS.nil);exact mixed;kernel_rfl)|((with_reducible apply W.reg);kernel_rfl)|(with_reducible apply thenK_n)))
    ((with_reducible apply W.seq);repeat (first|((with_reducible apply RS.load1B);(iterate 3 exact rfl);exact hMo;exact hMon;exact hoc)|((with_reducible apply RS.indexAddrS);(iterate 5 exact rfl);omega)|((with_reducible apply RS.callEx);(iterate 3 exact rfl);intro B2 hB2;refine ⟨_,setcopy_exL o hoL (some ⟨xo,0,none⟩) L hL1 B2 (.some (hB2.up _ _ hom) (Nat.le_trans s0.rw hoN)),?_⟩;rintro v H3 π3 ⟨A7,c7,rfl,hs3,ho3,hn3⟩ sH3 hle3)|((with_reducible first|apply RS.move|apply RS.assign);iterate 3 exact rfl)|((with_reducible apply RS.nil);exact mixed;kernel_rfl)|((with_reducible apply W.reg);kernel_rfl)|(with_reducible apply thenK_n)))
    have hA7:∀ j,SN A7 j→B.n≤j:=fun j e=>Nat.le_trans hB2.le (hn3 _ e)
    have O3:Old B H3:=hB2.oldH.trans ho3
    have hO3:=O3.up sB.dom _ _ hI.own.m
    have hO3n:=sH3.dom _ _ hO3
    ((with_reducible apply W.seq);repeat (fail))
    ((with_reducible apply W.seq);repeat (first|((with_reducible apply RS.loadNB);(iterate 3 exact rfl);exact hO3;exact hO3n;exact (bv_term hbw (by omega)).2;exact (bv_term hbw (by omega)).1)|((with_reducible apply RS.callEx);(iterate 3 exact rfl);intro B4 hB4;refine ⟨_,treads_ex b.term B4,?_⟩;rintro v H5 π5 ⟨A8,c8,rfl,hr5,ho5⟩ sH5 hle5)|((with_reducible first|apply RS.nilCheck|apply RS.move|apply RS.lenSl|apply RS.fieldAddr);iterate 3 exact rfl)|((with_reducible apply RS.nil);exact mixed;kernel_rfl)|((with_reducible apply W.reg);kernel_rfl)|(with_reducible first|apply W.block|apply thenK_n)))
    have O5:Old B H5:=O3.trans (hB4.oldH.trans ho5)
    have hs5:=setAt_up hs3 ((hB4.oldH.trans ho5).up sH3.dom)
    have hfits:=hb6 b.s hbm
    refine W.loopN (X:=Nat) (fun j=>[(1,.pointer (some ⟨fb,0,none⟩)),(2,.pointer (some ⟨rb,0,none⟩)),(4,.slice (some ⟨ob,0,none⟩) f.blocks.length f.blocks.length),(20,.int .i64 (f.blocks.length:Int)),(21,.int .i64 (i:Int)),(6,.pointer (some ⟨bb,0+i * 9,none⟩)),(7,.slice A7 L c7),(37,.slice A8 (treadsS b.term).length c8),(38,.int .i64 ((treadsS b.term).length:Int)),(39,.int .i64 (j:Int))])
      (fun j Bx=>j≤(treadsS b.term).length∧Old B Bx∧SetAt Bx A7 (useS o ((treadsS b.term).take j))∧SlAt Bx A8 2 (treadsS b.term) argR) (fun j=>(treadsS b.term).length - j)
      (fun B' a=>⟨0,?_,⟨Nat.zero_le _,O5.trans a.oldH,by rw [List.take_zero];exact setAt_up hs5 a.up,hr5.mono a.up fun _ _ h=>h⟩⟩) ?_
    · (repeat' (first|exact trivial|exact rfl|apply And.intro));done
    rintro j B6 π6 sB6 ⟨hj,O6,hs6,hr6⟩
    have hs6L:(useS o ((treadsS b.term).take j)).length=L:=by rw [useS_length];exact hoL
    have htl:=treads_len b.term
    by_cases hjl:j < (treadsS b.term).length
    · obtain ⟨x,hx⟩:∃ x,(treadsS b.term)[j]?=some x:=⟨_,List.getElem?_eq_getElem hjl⟩
      obtain ⟨mb,off,cs,e,rfl,hM,hMl,hMv⟩:=hr6.get j x hx
      have hMn:=sB6.dom _ _ hM
      have hMv:takeV (off+j * 2) 2 cs=argC x:=hMv
      have hfa:=hfits x (List.mem_of_getElem? hx)
      repeat (first|((with_reducible apply RS.indexAddrS);(iterate 5 exact rfl);omega)|((with_reducible apply RS.loadNB);(iterate 3 exact rfl);exact hM;exact hMn;exact hMl;exact hMv)|((with_reducible apply RS.callEx);(iterate 3 exact rfl);intro B7 hB7;refine ⟨_,TF.ex (put_tfL _ hs6L A7 c7 _ hfa hL1 B7 (setAt_up hs6 hB7.up)),?_⟩;rintro v H' π7 ⟨rfl,rfl⟩ sH7 hle7)|((with_reducible first|apply RS.move|apply RS.fieldAddr);iterate 3 exact rfl)|((with_reducible apply RS.cmpT);(iterate 4 exact rfl);(simp only [cmpP];omega))|((with_reducible apply RS.add1);(iterate 4 exact rfl);omega)|((with_reducible apply RS.load1);iterate 6 exact rfl)|((with_reducible apply RS.store);(iterate 5 exact rfl);exact Nat.le_of_ble_eq_true rfl;iterate 3 exact rfl)|((with_reducible apply RS.alloc);iterate 2 exact rfl)|((with_reducible apply RS.nil);exact mixed;kernel_rfl)|(with_reducible first|apply W.seq|apply W.block|apply W.skip|apply thenK_n|apply blockK_n)|((with_reducible apply W.reg);kernel_rfl)|((with_reducible apply W.condT);kernel_rfl;exact rfl))
      have hs7:=setAt_up hs6 hB7.up
      refine roundN_n rfl fun B' a=>⟨j+1,?_,⟨by omega,((O6.trans hB7.oldH).offS (setH_off hs7) hA7).trans a.oldH,?_,(SlAt.setH hB7.dom (hr6.mono hB7.up fun _ _ h=>h) hs7).mono a.up fun _ _ h=>h⟩,by omega⟩
      · (repeat' (first|exact trivial|exact rfl|apply And.intro));done
      · rw [useS_take hx]
        exact setAt_up (setH_at hs7 (putS_length _ _)) a.up
    have hjj:j=(treadsS b.term).length:=by omega
    rw [hjj,List.take_length] at hs6 hs6L
    have hO6:=O6.up sB.dom _ _ hI.own.m
    have hO6n:=sB6.dom _ _ hO6
    have hbil:b.ins.length≤1000000:=by have:=hb4 b.s hbm;simpa [BV.s] using this
    have hcell0:(bw.map BV.c).flatten[0+i * 9+0]?=some (.slice b.A b.ins.length b.k):=bv_cell (o:=0) hbw (by omega) (by decide) (by rw [BVc_eq];simp [blockC,BV.s])
    ((with_reducible apply W.seq);repeat (first|((with_reducible apply RS.cmpF);(iterate 4 exact rfl);(simp only [cmpN];omega))|((with_reducible apply RS.nil);exact mixed;kernel_rfl)|((with_reducible apply W.reg);kernel_rfl)|(with_reducible apply thenK_n)))
    ((with_reducible apply W.seq);repeat (first|(with_reducible first|apply W.exit|apply thenK_n|apply thenK_e|apply roundN_e)|((with_reducible apply W.condF);kernel_rfl;exact rfl)|((with_reducible apply blockK_hit);exact rfl)))
    ((with_reducible apply W.seq);repeat (first|((with_reducible apply RS.assign);iterate 3 exact rfl)|((with_reducible apply RS.nil);exact mixed;kernel_rfl)|((with_reducible apply W.reg);kernel_rfl)|(with_reducible apply thenK_n)))
    ((with_reducible apply W.seq);repeat (fail))
    ((with_reducible apply W.seq);repeat (first|((with_reducible apply RS.load1B);(iterate 3 exact rfl);exact hO6;exact hO6n;exact hcell0)|((with_reducible first|apply RS.nilCheck|apply RS.move|apply RS.assign|apply RS.lenSl|apply RS.fieldAddr);iterate 3 exact rfl)|((with_reducible apply RS.binFit);(iterate 5 exact rfl);omega)|((with_reducible apply RS.nil);exact mixed;kernel_rfl)|((with_reducible apply W.reg);kernel_rfl)|(with_reducible first|apply W.block|apply thenK_n)))
    refine W.loopN (X:=Nat × SetS × List InsV × Nat) (fun x=>[(1,.pointer (some ⟨fb,0,none⟩)),(2,.pointer (some ⟨rb,0,none⟩)),(4,.slice (some ⟨ob,0,none⟩) f.blocks.length f.blocks.length),(20,.int .i64 (f.blocks.length:Int)),(21,.int .i64 (i:Int)),(6,.pointer (some ⟨bb,0+i * 9,none⟩)),(7,.slice A7 L c7),(10,rowVl 12 x.2.2.2 (x.2.2.1.map insVC)),(11,.int .i64 ((x.1:Int) - 1))])
      (fun x Bx=>x.1≤b.ins.length∧Old B Bx∧SetAt Bx A7 x.2.1∧x.2.1.length=L∧onceGo ((b.ins.take x.1).map (·.1)).reverse x.2.1 (x.2.2.1.map (·.1)).reverse=(onceB b.s o).ins∧(∀ y∈x.2.2.1,y∈b.ins)∧x.2.2.1.length+x.1≤b.ins.length∧(x.2.2.1≠[]→B.n≤x.2.2.2∧Bx.m x.2.2.2=some ⟨⟨(x.2.2.1.map insVC).flatten⟩,58⟩)) (fun x=>x.1)
      (fun B' a=>⟨(b.ins.length,useS o (treadsS b.term),[],0),?_,⟨Nat.le_refl _,O6.trans a.oldH,setAt_up hs6 a.up,hs6L,by dsimp only;rw [List.take_length];rfl,(fun y hy=>by cases hy),by simp,fun hn=>absurd rfl hn⟩⟩) ?_
    · dsimp only
      (repeat' (first|exact trivial|exact rfl|apply And.intro));done
    rintro ⟨k,s,acc,r⟩ B8 π8 sB8 ⟨hk,O8,hs8,hsL,hgo,hsub,hal,hrow⟩
    dsimp only at hk O8 hs8 hsL hgo hsub hal hrow ⊢
    have hO8:=O8.up sB.dom _ _ hI.own.m
    have hO8n:=sB8.dom _ _ hO8
    cases k with
    | zero =>
      rw [List.take_zero] at hgo
      have hT:acc.reverse.map (·.1)=(onceB b.s o).ins:=by rw [List.map_reverse];exact hgo
      obtain ⟨AA,hAA⟩:∃ AA:Option Addr,(if acc=[] then none else some ⟨r,0,none⟩)=AA:=⟨_,rfl⟩
      obtain ⟨cc,hcc⟩:∃ cc:Nat,(if acc=[] then 0 else capOf 12)=cc:=⟨_,rfl⟩
      have hV:rowVl 12 r (acc.map insVC)=.slice AA acc.length cc:=by rw [rowVl_map,rowVl_eq,hAA,hcc]
      have hV2:(.slice AA acc.length cc:Value)=rowVl 12 r acc.reverse:=by rw [rowVl_eq,← hAA,← hcc,List.length_reverse];simp
      rw [hV]
      repeat (first|((with_reducible first|apply RS.move|apply RS.assign);iterate 3 exact rfl)|((with_reducible apply RS.cmpF);(iterate 4 exact rfl);(simp only [cmpN];omega))|((with_reducible apply RS.nil);exact mixed;kernel_rfl)|(with_reducible first|apply W.seq|apply W.block|apply W.exit|apply thenK_n|apply thenK_e|apply roundN_e)|((with_reducible apply W.reg);kernel_rfl)|((with_reducible apply W.condF);kernel_rfl;exact rfl)|((with_reducible apply blockK_hit);exact rfl))
      refine W.loopN (X:=Nat) (fun k=>[(1,.pointer (some ⟨fb,0,none⟩)),(2,.pointer (some ⟨rb,0,none⟩)),(4,.slice (some ⟨ob,0,none⟩) f.blocks.length f.blocks.length),(20,.int .i64 (f.blocks.length:Int)),(21,.int .i64 (i:Int)),(6,.pointer (some ⟨bb,0+i * 9,none⟩)),(10,.slice AA acc.length cc),(13,.int .i64 (k:Int))])
        (fun k Bx=>k≤acc.length / 2∧Old B Bx∧(acc≠[]→Bx.m r=some ⟨⟨((revK acc k).map insVC).flatten⟩,58⟩)) (fun k=>acc.length / 2 - k)
        (fun B' a=>⟨0,?_,⟨Nat.zero_le _,O8.trans a.oldH,fun hn=>a.up _ _ (hrow hn).2⟩⟩) ?_
      · (repeat' (first|exact trivial|exact rfl|apply And.intro));done
      rintro k Bx πx sx ⟨hk2,Ox,hrx⟩
      by_cases hkl:k < acc.length / 2
      · have hne:acc≠[]:=by intro e;rw [e] at hkl;exact absurd hkl (Nat.not_lt_zero _)
        rw [if_neg hne] at hAA
        subst hAA
        obtain ⟨xa,xb,hxa,hxb,hst⟩:=revK_step acc hkl
        have hRx:=hrx hne
        have hRxn:=sx.dom _ _ hRx
        have hRw2:rwM≤r:=Nat.le_trans sB.rw (hrow hne).1
        have hjm:(acc.length:Int) - 1 - (k:Int)=((acc.length - 1 - k:Nat):Int):=by omega
        have hxb2:((revK acc k).set k xb)[acc.length - 1 - k]?=some xb:=by rw [List.getElem?_set,if_neg (by omega)];exact hxb
        obtain ⟨hva,hla⟩:=insrow_take hxa (off:=0+k * 12) (by omega)
        obtain ⟨hvb,hlb⟩:=insrow_take hxb (off:=0+(acc.length - 1 - k) * 12) (by omega)
        have hlb2:=(insrow_take hxb2 (off:=0+(acc.length - 1 - k) * 12) (by omega)).2
        rw [insVC_eq] at hva hvb
        have hpa:setL ((revK acc k).map insVC).flatten (0+k * 12) (insC xb.1 (insA xb) (insK xb))=(((revK acc k).set k xb).map insVC).flatten:=by rw [← insVC_eq];exact insrow_put hxa (by omega)
        have hpb:setL (((revK acc k).set k xb).map insVC).flatten (0+(acc.length - 1 - k) * 12) (insC xa.1 (insA xa) (insK xa))=((revK acc (k+1)).map insVC).flatten:=by rw [hst,← insVC_eq];exact insrow_put hxb2 (by omega)
        have hRx2:∀ z,(Bx.set r z).m r=some z:=fun z=>by show (if r=r then _ else _)=_;rw [if_pos rfl]
        repeat (first|((with_reducible apply RS.quo2);(iterate 3 exact rfl);omega)|((with_reducible apply RS.indexAddrS);(iterate 5 exact rfl);omega)|((with_reducible apply RS.loadNB);(iterate 3 exact rfl);first|exact hRx;exact hRxn;exact hla;exact hva|exact hRx;exact hRxn;exact hlb;exact hvb)|((with_reducible apply RS.storeB);(iterate 3 exact rfl);first|exact hRx;exact hRxn;exact hRw2;exact hla;(iterate 2 exact rfl);exact hpa|exact hRx2 _;exact hRxn;exact hRw2;exact hlb2;(iterate 2 exact rfl);exact hpb)|((with_reducible first|apply RS.move|apply RS.assign|apply RS.lenSl);iterate 3 exact rfl)|((with_reducible apply RS.cmpT);(iterate 4 exact rfl);(simp only [cmpP];omega))|((with_reducible apply RS.add1);(iterate 4 exact rfl);omega)|((with_reducible apply RS.sub1);(iterate 4 exact rfl);omega)|((with_reducible apply RS.subNat);(iterate 4 exact rfl);omega)|((with_reducible apply RS.nil);exact mixed;kernel_rfl)|(with_reducible first|apply W.seq|apply W.block|apply W.skip|apply thenK_n|apply blockK_n)|((with_reducible apply W.reg);kernel_rfl)|((with_reducible apply W.condT);kernel_rfl;exact rfl))
        have hrj:∀ j,j=r→B.n≤j:=fun j e=>by rw [e];exact (hrow hne).1
        refine roundN_n rfl fun B' a=>⟨k+1,?_,⟨hkl,((Ox.offS (OffS.set Bx r _) hrj).offS (OffS.set _ r _) hrj).trans a.oldH,fun _=>a.up _ _ (by show (if r=r then _ else _)=_;rw [if_pos rfl])⟩,by omega⟩
        (repeat' (first|exact trivial|exact rfl|apply And.intro));done
      · have hkk:k=acc.length / 2:=by omega
        rw [hkk,revK_all] at hrx
        have hOx:=Ox.up sB.dom _ _ hI.own.m
        have hOxn:=sx.dom _ _ hOx
        repeat (first|((with_reducible apply RS.quo2);(iterate 3 exact rfl);omega)|((with_reducible apply RS.storeB);(iterate 3 exact rfl);exact hOx;exact hOxn;exact hI.own.rw;(have:=(bv_block hbw (off:=i * 9) rfl).2;omega);(iterate 2 exact rfl);exact bv_put0 (b':=⟨acc.reverse,r,b.term⟩) hbw (by omega) hV2 rfl)|((with_reducible first|apply RS.nilCheck|apply RS.move|apply RS.lenSl|apply RS.fieldAddr);iterate 3 exact rfl)|((with_reducible apply RS.cmpF);(iterate 4 exact rfl);(simp only [cmpN];omega))|((with_reducible apply RS.add1);(iterate 4 exact rfl);omega)|((with_reducible apply RS.nil);exact mixed;kernel_rfl)|(with_reducible first|apply W.seq|apply W.exit|apply thenK_n|apply thenK_e|apply blockK_n|apply roundN_e)|((with_reducible apply W.reg);kernel_rfl)|((with_reducible apply W.condF);kernel_rfl;exact rfl)|((with_reducible apply blockK_hit);exact rfl))
        have hI':=hI.next sB.dom s0.rw hb ho hT (fun y hy=>hsub y (List.mem_reverse.1 hy)) Ox (r:=r) fun hn=>(have hn:acc≠[]:=fun e=>hn (by rw [e];rfl);⟨(hrow hn).1,hrx hn⟩)
        refine roundN_n rfl fun B' a=>⟨(i+1,bw.set i ⟨acc.reverse,r,b.term⟩),?_,⟨hlt,hI'.up ?_ a.oldH⟩,?_⟩
        · (repeat' (first|exact trivial|exact rfl|apply And.intro));done
        · intro j y hy
          have hy:(if j=bb then _ else Bx.m j)=some y:=hy
          split at hy
          · rename_i e;rw [e];exact hOxn
          · exact sx.dom j y hy
        · show bv.length - (i+1) < bv.length - i
          omega
    | succ k =>
      have e11:((k+1:Nat):Int) - 1=(k:Int):=by omega
      rw [e11]
      have hbne:b.ins≠[]:=by intro e;rw [e] at hk;exact absurd hk (Nat.not_succ_le_zero _)
      have hbA:b.A=some ⟨b.r,0,none⟩:=by unfold BV.A;rw [if_neg hbne]
      rw [hbA] at hcell0
      obtain ⟨x,hx⟩:∃ x,b.ins[k]?=some x:=⟨_,List.getElem?_eq_getElem (by omega)⟩
      have hX8:=O8.up sB.dom _ _ (hI.own.row b hbwm hbne).2
      have hX8n:=sB8.dom _ _ hX8
      obtain ⟨hX8v,hX8l⟩:=insrow_take hx (off:=0+k * 12) (by omega)
      rw [insVC_eq x] at hX8v
      have hgo':onceGo (x.1::((b.ins.take k).map (·.1)).reverse) s (acc.map (·.1)).reverse=(onceB b.s o).ins:=by
        rw [← hgo]
        obtain ⟨q1,q2⟩:=List.getElem?_eq_some_iff.1 hx
        rw [List.take_succ_eq_append_getElem q1,q2,List.map_append,List.reverse_append];rfl
      rw [onceGo] at hgo'
      have hxm:x.1∈b.s.ins:=List.mem_map_of_mem (List.mem_of_getElem? hx)
      obtain ⟨hx5,hx6,hx7⟩:=hb5 b.s hbm x.1 hxm
      have hargs:=insA_sl (x:=x) fun hn=>(hI.own.arg b hbwm x (List.mem_of_getElem? hx) hn).2
      ((with_reducible apply W.seq);repeat (fail))
      ((with_reducible apply W.seq);repeat (first|((with_reducible apply RS.move);iterate 3 exact rfl)|((with_reducible apply RS.cmpT);(iterate 4 exact rfl);(simp only [cmpP];omega))|((with_reducible apply RS.nil);exact mixed;kernel_rfl)|((with_reducible apply W.reg);kernel_rfl)|(with_reducible first|apply W.skip|apply thenK_n)|((with_reducible apply W.condT);kernel_rfl;exact rfl)))
      ((with_reducible apply W.seq);repeat (first|(with_reducible apply W.block)))
      ((with_reducible apply W.seq);repeat (first|((with_reducible apply RS.indexAddrS);(iterate 5 exact rfl);omega)|((with_reducible apply RS.load1B);(iterate 3 exact rfl);exact hO8;exact hO8n;exact hcell0)|((with_reducible apply RS.loadNB);(iterate 3 exact rfl);exact hX8;exact hX8n;exact hX8l;exact hX8v)|((with_reducible first|apply RS.nilCheck|apply RS.move|apply RS.fieldAddr);iterate 3 exact rfl)|((with_reducible apply RS.store);(iterate 5 exact rfl);exact Nat.le_of_ble_eq_true rfl;iterate 3 exact rfl)|((with_reducible apply RS.alloc);iterate 2 exact rfl)|((with_reducible apply RS.nil);exact mixed;kernel_rfl)|((with_reducible apply W.reg);kernel_rfl)|(with_reducible apply thenK_n)))
      refine W.absorbX fun B9 π9 a9=>?_
      have hq:B9.m (π8 0)=some ⟨⟨insC x.1 (insA x) (insK x)⟩,58⟩:=a9.loc 0 (Nat.lt_succ_self 0)
      generalize π8 0=q at *
      have hqn:=a9.dom _ _ hq
      have O9:=O8.trans a9.oldH
      have hs9:=setAt_up hs8 a9.up
      have hrow9:acc≠[]→B9.m r=some ⟨⟨(acc.map insVC).flatten⟩,58⟩:=fun hn=>a9.up _ _ (hrow hn).2
      repeat' (first|((with_reducible apply RS.callA);(iterate 3 exact rfl);first|exact fun B' hB'=>wanted_tf x.1 (insA x) (insK x) B'|exact fun B' hB'=>has_tfL s hsL A7 c7 _ hx6 hL1 B' (setAt_up hs9 hB'.up))|((with_reducible apply RS.loadNB);(iterate 3 exact rfl);exact hq;exact hqn;exact Nat.le_of_ble_eq_true rfl;exact rfl)|((with_reducible apply RS.load1B);(iterate 3 exact rfl);exact hq;exact hqn;exact rfl)|((with_reducible apply RS.callEx);(iterate 3 exact rfl);intro B10 hB10;refine ⟨_,back_exL s hsL A7 c7 x.1 (insA x) (insK x) hL1 (by omega) hx6 hx7 B10 (setAt_up hs9 hB10.up) (hargs.mono (fun i y hy=>hB10.up _ _ (O9.up sB.dom i y hy)) fun _ _ h=>h),?_⟩;rintro v H11 π11 ⟨hs11,ho11⟩ sH11 hle11;have hkp:=fun {j:Nat} {y:Blk} (hy:B9.m j=some y) (he:y.elem≠90)=>offA_keep hB10.dom (setAt_up hs9 hB10.up) ho11 (hB10.up _ _ hy) he;have hq11:=hkp hq (by simp);have hq11n:=sH11.dom _ _ hq11)|((with_reducible apply RS.loadNB);(iterate 3 exact rfl);exact hq11;exact hq11n;exact Nat.le_of_ble_eq_true rfl;exact rfl)|((with_reducible apply RS.buildSlice);iterate 8 exact rfl)|((with_reducible apply RS.pushRow (v:=insC x.1 (insA x) (insK x)) (L:=acc.map insVC));(iterate 6 exact rfl);exact fun Bq hBq=>⟨hBq.loc 0 (Nat.lt_succ_self 0),fun hn=>(have hn:acc≠[]:=fun e=>hn (by rw [e];rfl);⟨Nat.le_trans sB.rw (hrow hn).1,hBq.up _ _ (hkp (hrow9 hn) (by simp))⟩)⟩;exact ins_wid acc;(iterate 2 exact rfl);(rw [List.length_map];omega);(rw [List.length_map];omega);intro B12 hB12 r13 H13 π13 sH13 hr13 hm13 hle13 hoff13)|((with_reducible first|apply RS.move|apply RS.assign|apply RS.not|apply RS.fieldAddr);iterate 3 exact rfl)|((with_reducible apply RS.pickT);iterate 4 exact rfl)|((with_reducible apply RS.pickF);iterate 4 exact rfl)|((with_reducible apply RS.cmpC);iterate 5 exact rfl)|((with_reducible apply RS.binFit);(iterate 5 exact rfl);omega)|((with_reducible apply RS.bin);iterate 5 exact rfl)|((with_reducible apply RS.skip);iterate 2 exact rfl)|((with_reducible apply RS.nil);exact mixed;kernel_rfl)|(with_reducible first|apply W.seq|apply W.exit|apply W.skip|apply thenK_n|apply thenK_e|apply blockK_n)|((with_reducible apply W.reg);kernel_rfl)|((with_reducible apply W.condT);kernel_rfl;exact rfl)|((with_reducible apply W.condF);kernel_rfl;exact rfl)|((with_reducible apply blockK_hit);exact rfl)|(((with_reducible apply RS.splitD);iterate 2 exact rfl)<;>intro _)|((((with_reducible apply RS.splitG);iterate 2 exact rfl)<;>intro _)<;>(fail_if_success cases ‹true=false›)<;>(fail_if_success cases ‹false=true›))|(((with_reducible apply W.condD);exact rfl)<;>intro _)|((((with_reducible apply W.cond);exact rfl)<;>intro _)<;>(fail_if_success cases ‹true=false›)<;>(fail_if_success cases ‹false=true›)))
      · rw [if_pos (by rw [‹(!wantedS x.1)=true›,decide_eq_true ‹x.1.dst < 0›];rfl)] at hgo'
        refine roundN_n rfl fun B' a=>⟨(k,s,acc,r),?_,⟨Nat.le_of_succ_le hk,O9.trans a.oldH,setAt_up hs9 a.up,hsL,hgo',hsub,(show acc.length+k≤b.ins.length by omega),fun hn=>⟨(hrow hn).1,a.up _ _ (hrow9 hn)⟩⟩,Nat.lt_succ_self _⟩
        (repeat' (first|exact trivial|exact rfl|apply And.intro));done
      · rw [if_pos (by rw [‹(!wantedS x.1)=true›,‹(!hasS s x.1.dst)=true›];simp)] at hgo'
        refine roundN_n rfl fun B' a=>⟨(k,s,acc,r),?_,⟨Nat.le_of_succ_le hk,O9.trans a.oldH,setAt_up hs9 a.up,hsL,hgo',hsub,(show acc.length+k≤b.ins.length by omega),fun hn=>⟨(hrow hn).1,a.up _ _ (hrow9 hn)⟩⟩,Nat.lt_succ_self _⟩
        (repeat' (first|exact trivial|exact rfl|apply And.intro));done
      · rw [if_neg (by rw [‹(!wantedS x.1)=true›,decide_eq_false ‹¬ x.1.dst < 0›,‹(!hasS s x.1.dst)=false›];decide)] at hgo'
        rw [if_pos ⟨‹x.1.op=2›,‹x.1.a.reg=x.1.dst›⟩] at hgo'
        refine roundN_n rfl fun B' a=>⟨(k,s,acc,r),?_,⟨Nat.le_of_succ_le hk,O9.trans a.oldH,setAt_up hs9 a.up,hsL,hgo',hsub,(show acc.length+k≤b.ins.length by omega),fun hn=>⟨(hrow hn).1,a.up _ _ (hrow9 hn)⟩⟩,Nat.lt_succ_self _⟩
        (repeat' (first|exact trivial|exact rfl|apply And.intro));done
      · rw [if_neg (by rw [‹(!wantedS x.1)=true›,decide_eq_false ‹¬ x.1.dst < 0›,‹(!hasS s x.1.dst)=false›];decide)] at hgo'
        rw [if_neg (fun e=>absurd e.2 ‹¬ x.1.a.reg=x.1.dst›)] at hgo'
        obtain ⟨O13,hs13,O12⟩:=once_push O9 hB10.oldH ho11 hA7 hB12.oldH hs11 hB12.dom sH11.dom (fun hn=>hB12.up _ _ (hkp (hrow9 hn) (by simp))) (fun hn=>(hrow hn).1) hle13 hoff13
        have e1:(acc++[x]).map insVC=acc.map insVC++[insC x.1 (insA x) (insK x)]:=by rw [List.map_append,← insVC_eq];rfl
        refine roundN_n rfl fun B' a=>⟨(k,backS s x.1,acc++[x],r13),?_,⟨Nat.le_of_succ_le hk,O13.trans a.oldH,setAt_up hs13 a.up,by rw [← hsL];exact backS_len _ _,by rw [List.map_append,List.reverse_append];exact hgo',?_,(show (acc++[x]).length+k≤b.ins.length by rw [List.length_append,List.length_singleton];omega),fun hn=>⟨Nat.le_trans O12 hr13,a.up _ _ (by rw [e1];exact hm13)⟩⟩,Nat.lt_succ_self _⟩
        · dsimp only
          rw [e1]
          (repeat' (first|exact trivial|exact rfl|apply And.intro));done
        · intro y hy
          rcases List.mem_append.1 hy with e|e
          · exact hsub y e
          · simp only [List.mem_singleton] at e
            subst e
            exact List.mem_of_getElem? hx
      · rw [if_neg (by rw [‹(!wantedS x.1)=true›,decide_eq_false ‹¬ x.1.dst < 0›,‹(!hasS s x.1.dst)=false›];decide)] at hgo'
        rw [if_neg (fun e=>absurd e.1 ‹¬ x.1.op=2›)] at hgo'
        obtain ⟨O13,hs13,O12⟩:=once_push O9 hB10.oldH ho11 hA7 hB12.oldH hs11 hB12.dom sH11.dom (fun hn=>hB12.up _ _ (hkp (hrow9 hn) (by simp))) (fun hn=>(hrow hn).1) hle13 hoff13
        have e1:(acc++[x]).map insVC=acc.map insVC++[insC x.1 (insA x) (insK x)]:=by rw [List.map_append,← insVC_eq];rfl
        refine roundN_n rfl fun B' a=>⟨(k,backS s x.1,acc++[x],r13),?_,⟨Nat.le_of_succ_le hk,O13.trans a.oldH,setAt_up hs13 a.up,by rw [← hsL];exact backS_len _ _,by rw [List.map_append,List.reverse_append];exact hgo',?_,(show (acc++[x]).length+k≤b.ins.length by rw [List.length_append,List.length_singleton];omega),fun hn=>⟨Nat.le_trans O12 hr13,a.up _ _ (by rw [e1];exact hm13)⟩⟩,Nat.lt_succ_self _⟩
        · dsimp only
          rw [e1]
          (repeat' (first|exact trivial|exact rfl|apply And.intro));done
        · intro y hy
          rcases List.mem_append.1 hy with e|e
          · exact hsub y e
          · simp only [List.mem_singleton] at e
            subst e
            exact List.mem_of_getElem? hx
      · rw [if_neg (by rw [‹(!wantedS x.1)=false›];simp)] at hgo'
        rw [if_pos ⟨‹x.1.op=2›,‹x.1.a.reg=x.1.dst›⟩] at hgo'
        refine roundN_n rfl fun B' a=>⟨(k,s,acc,r),?_,⟨Nat.le_of_succ_le hk,O9.trans a.oldH,setAt_up hs9 a.up,hsL,hgo',hsub,(show acc.length+k≤b.ins.length by omega),fun hn=>⟨(hrow hn).1,a.up _ _ (hrow9 hn)⟩⟩,Nat.lt_succ_self _⟩
        (repeat' (first|exact trivial|exact rfl|apply And.intro));done
      · rw [if_neg (by rw [‹(!wantedS x.1)=false›];simp)] at hgo'
        rw [if_neg (fun e=>absurd e.2 ‹¬ x.1.a.reg=x.1.dst›)] at hgo'
        obtain ⟨O13,hs13,O12⟩:=once_push O9 hB10.oldH ho11 hA7 hB12.oldH hs11 hB12.dom sH11.dom (fun hn=>hB12.up _ _ (hkp (hrow9 hn) (by simp))) (fun hn=>(hrow hn).1) hle13 hoff13
        have e1:(acc++[x]).map insVC=acc.map insVC++[insC x.1 (insA x) (insK x)]:=by rw [List.map_append,← insVC_eq];rfl
        refine roundN_n rfl fun B' a=>⟨(k,backS s x.1,acc++[x],r13),?_,⟨Nat.le_of_succ_le hk,O13.trans a.oldH,setAt_up hs13 a.up,by rw [← hsL];exact backS_len _ _,by rw [List.map_append,List.reverse_append];exact hgo',?_,(show (acc++[x]).length+k≤b.ins.length by rw [List.length_append,List.length_singleton];omega),fun hn=>⟨Nat.le_trans O12 hr13,a.up _ _ (by rw [e1];exact hm13)⟩⟩,Nat.lt_succ_self _⟩
        · dsimp only
          rw [e1]
          (repeat' (first|exact trivial|exact rfl|apply And.intro));done
        · intro y hy
          rcases List.mem_append.1 hy with e|e
          · exact hsub y e
          · simp only [List.mem_singleton] at e
            subst e
            exact List.mem_of_getElem? hx
      · rw [if_neg (by rw [‹(!wantedS x.1)=false›];simp)] at hgo'
        rw [if_neg (fun e=>absurd e.1 ‹¬ x.1.op=2›)] at hgo'
        obtain ⟨O13,hs13,O12⟩:=once_push O9 hB10.oldH ho11 hA7 hB12.oldH hs11 hB12.dom sH11.dom (fun hn=>hB12.up _ _ (hkp (hrow9 hn) (by simp))) (fun hn=>(hrow hn).1) hle13 hoff13
        have e1:(acc++[x]).map insVC=acc.map insVC++[insC x.1 (insA x) (insK x)]:=by rw [List.map_append,← insVC_eq];rfl
        refine roundN_n rfl fun B' a=>⟨(k,backS s x.1,acc++[x],r13),?_,⟨Nat.le_of_succ_le hk,O13.trans a.oldH,setAt_up hs13 a.up,by rw [← hsL];exact backS_len _ _,by rw [List.map_append,List.reverse_append];exact hgo',?_,(show (acc++[x]).length+k≤b.ins.length by rw [List.length_append,List.length_singleton];omega),fun hn=>⟨Nat.le_trans O12 hr13,a.up _ _ (by rw [e1];exact hm13)⟩⟩,Nat.lt_succ_self _⟩
        · dsimp only
          rw [e1]
          (repeat' (first|exact trivial|exact rfl|apply And.intro));done
        · intro y hy
          rcases List.mem_append.1 hy with e|e
          · exact hsub y e
          · simp only [List.mem_singleton] at e
            subst e
            exact List.mem_of_getElem? hx
  · have hii:i=bv.length:=by omega
    have hRb:=hI.rm
    have hRbn:=sB.dom _ _ hRb
    have hbl:=hI.len
    have hsl:sL bw=onceL (sL bv) outs:=by
      have:=hI.pl
      rw [hii,List.take_of_length_le (by rw [sL_length];omega),List.take_of_length_le (by rw [onceL_len,sL_length];omega)] at this
      exact this
    repeat (first|((with_reducible apply RS.loadNB);(iterate 3 exact rfl);exact hF;exact hFn;exact Nat.le_of_ble_eq_true rfl;exact rfl)|((with_reducible apply RS.storeB);(iterate 3 exact rfl);exact hRb;exact hRbn;exact hRw;exact Nat.le_of_ble_eq_true rfl;iterate 3 exact rfl)|((with_reducible apply RS.cmpF);(iterate 4 exact rfl);(simp only [cmpN];omega))|((with_reducible apply RS.nil);exact mixed;kernel_rfl)|(with_reducible first|apply W.seq|apply W.exit|apply W.ret|apply thenK_n|apply thenK_e|apply roundN_e)|((with_reducible apply W.reg);kernel_rfl)|((with_reducible apply W.condF);kernel_rfl;exact rfl)|((with_reducible apply blockK_hit);exact rfl))
    refine endsK_ret _ (.cons (.baseN (vs:=funcC f A1 c1 A2 c2 (some ⟨bb,0,none⟩) c3) rfl (by show (if rb=rb then _ else _)=_;rw [if_pos rfl]) (Nat.le_of_ble_eq_true rfl) rfl) .nil) fun B' a=>⟨bw,?_,?_,?_,?_,?_,hI.sub⟩
    · have e:f.blocks.length=(sL bw).length:=by rw [sL_length,hbl,hfl']
      show Value.agg ⟨funcC f A1 c1 A2 c2 (some ⟨bb,0,none⟩) c3⟩=_
      unfold funcC
      rw [e]
    · refine hI.own.up35 fun j x hx he=>a.up _ _ ?_
      show (if j=rb then _ else B.m j)=_
      rw [if_neg (ne_of_elem hx hRb he)]
      exact hx
    · rw [hsl];exact honce
    · exact (hI.off.trans (OffS.set B rb _) fun j hj e=>absurd hrb (by omega)).same a.oldH.off
    · intro x hx hn
      exact hI.new x (by rw [hii,List.take_of_length_le (by omega)];exact hx) hn
end Go.Proofs.YtjhloakacicdiaaDoor
namespace Go.Proofs.YtjhloakacicdiaaDoor
open Go.AH
attribute [local irreducible] W RS
theorem onceGo_sub:∀ (l:List InsS) (s:SetS) (acc:List InsS),(onceGo l s acc).Sublist (l.reverse++acc)
  | [],_,acc=>List.Sublist.refl _
  | x::r,s,acc=>by
    have h1:=onceGo_sub r s acc
    have h2:=onceGo_sub r (backS s x) (x::acc)
    have e:(x::r).reverse++acc=r.reverse++(x::acc):=by simp
    have h3:(onceGo r s acc).Sublist (r.reverse++(x::acc)):=h1.trans (List.Sublist.append (List.Sublist.refl _) (List.sublist_cons_self x acc))
    rw [onceGo,e]
    split
    · exact h3
    · split
      · exact h3
      · exact h2
theorem onceB_sub (b:BlockS) (o:SetS):(onceB b o).ins.Sublist b.ins:=by
  have:=onceGo_sub b.ins.reverse (useS o (treadsS b.term)) []
  rw [List.reverse_reverse,List.append_nil] at this
  exact this
def LessL (bl bl':List BlockS):Prop:=bl'.length=bl.length∧∀ (i:Nat) (b b':BlockS),bl[i]?=some b→bl'[i]?=some b'→b'.term=b.term∧b'.ins.Sublist b.ins
theorem LessL.refl (bl:List BlockS):LessL bl bl:=⟨rfl,fun i b b' h1 h2=>by rw [h1] at h2;injection h2 with h2;subst h2;exact ⟨rfl,List.Sublist.refl _⟩⟩
theorem LessL.trans {a b c:List BlockS} (h1:LessL a b) (h2:LessL b c):LessL a c:=by
  refine ⟨by rw [h2.1,h1.1],fun i x z hx hz=>?_⟩
  have hi:=(List.getElem?_eq_some_iff.1 hx).1
  obtain ⟨y,hy⟩:∃ y,b[i]?=some y:=⟨_,List.getElem?_eq_getElem (by rw [h1.1];exact hi)⟩
  obtain ⟨g1,g2⟩:=h1.2 i x y hx hy
  obtain ⟨g3,g4⟩:=h2.2 i y z hy hz
  exact ⟨by rw [g3,g1],g4.trans g2⟩
theorem onceL_less:∀ (bl:List BlockS) (os:List SetS),LessL bl (onceL bl os)
  | [],[]=>.refl _
  | [],_::_=>.refl _
  | _::_,[]=>.refl _
  | b::bl,o::os=>by
    have ih:=onceL_less bl os
    rw [onceL]
    refine ⟨by rw [List.length_cons,List.length_cons,ih.1],fun i x y hx hy=>?_⟩
    cases i with
    | zero =>
      simp only [List.getElem?_cons_zero,Option.some.injEq] at hx hy
      subst hx;subst hy
      exact ⟨rfl,onceB_sub _ _⟩
    | succ i=>exact ih.2 i x y (by simpa using hx) (by simpa using hy)
theorem OnceS.less {regs:Int} {bl bl':List BlockS} (h:OnceS regs bl bl'):LessL bl bl':=by
  cases h with
  | mk h=>exact onceL_less _ _
theorem LessL.size {bl bl':List BlockS} (h:LessL bl bl'):sizeS bl'≤sizeS bl:=by
  induction bl generalizing bl' with
  | nil =>
    have:=List.length_eq_zero_iff.1 h.1
    subst this
    exact Nat.le_refl _
  | cons b bl ih =>
    cases bl' with
    | nil=>simp [sizeS]
    | cons b' bl' =>
      have h1:=(h.2 0 b b' rfl rfl).2.length_le
      have h2:=ih ⟨by have:=h.1;simpa using this,fun i x y hx hy=>h.2 (i+1) x y (by simpa using hx) (by simpa using hy)⟩
      unfold sizeS at h2 ⊢
      simp only [List.map_cons,List.sum_cons]
      omega
theorem LessL.mem {bl bl':List BlockS} (h:LessL bl bl') {b':BlockS} (hb:b'∈bl'):∃ b∈bl,b'.term=b.term∧b'.ins.Sublist b.ins:=by
  obtain ⟨i,hi⟩:=List.mem_iff_getElem?.1 hb
  have hl:=(List.getElem?_eq_some_iff.1 hi).1
  obtain ⟨b,hb⟩:∃ b,bl[i]?=some b:=⟨_,List.getElem?_eq_getElem (by rw [← h.1];exact hl)⟩
  exact ⟨b,List.mem_of_getElem? hb,h.2 i b b' hb hi⟩
theorem LessL.tgt {bl bl':List BlockS} (h:LessL bl bl') (ht:tgtOK bl):tgtOK bl':=by
  intro b hb k hk
  obtain ⟨b0,h1,h2,_⟩:=h.mem hb
  rw [h2] at hk
  rw [h.1]
  exact ht b0 h1 k hk
theorem sizeS_eq (bv:List BV):sizeS (sL bv)=totB bv:=by
  unfold sizeS totB sL
  rw [List.map_map]
  congr 1
  apply List.map_congr_left
  intro b _
  simp [BV.s]
structure OkL (regs:Int) (bl:List BlockS):Prop where
  pos:0 < bl.length
  len:bl.length≤100000
  r0:0≤regs
  r1:regs≤1000000
  tgt:tgtOK bl
  size:sizeS bl≤1000000
  fit:∀ b∈bl,∀ x∈b.ins,x.args.length≤1000000∧fitI x.dst∧∀ a∈readsS x,fitI a.reg
  tfit:∀ b∈bl,∀ a∈treadsS b.term,fitI a.reg
theorem sizeS_le {bl:List BlockS} {b:BlockS} (h:b∈bl):b.ins.length≤sizeS bl:=by
  induction bl with
  | nil=>cases h
  | cons c bl ih =>
    unfold sizeS at ih ⊢
    simp only [List.map_cons,List.sum_cons]
    rcases List.mem_cons.1 h with e|e
    · subst e;omega
    · have:=ih e;omega
theorem OkL.less {regs:Int} {bl bl':List BlockS} (o:OkL regs bl) (h:LessL bl bl'):OkL regs bl' :=
  ⟨by rw [h.1];exact o.pos,by rw [h.1];exact o.len,o.r0,o.r1,h.tgt o.tgt,Nat.le_trans h.size o.size,fun b hb x hx=>(by obtain ⟨b0,h1,_,h3⟩:=h.mem hb;exact o.fit b0 h1 x (h3.subset hx)),fun b hb=>(by obtain ⟨b0,h1,h2,_⟩:=h.mem hb;rw [h2];exact o.tfit b0 h1)⟩
theorem once_exO (h:Hp) (bb:Nat) (bv:List BV) (f:FuncS) (A1:Option Addr) (c1:Nat) (A2:Option Addr) (c2 c3:Nat) (hob:OwnB h bb bv) (hok:OkL f.regs (sL bv)) :
    EX Tryd.prog 44 [.agg ⟨funcC { f with blocks:=sL bv } A1 c1 A2 c2 (some ⟨bb,0,none⟩) c3⟩] h (fun v h'=>∃ bv',v=.agg ⟨funcC { f with blocks:=sL bv' } A1 c1 A2 c2 (some ⟨bb,0,none⟩) c3⟩∧OwnB h' bb bv'∧OnceS f.regs (sL bv) (sL bv')∧OffS (fun j=>j=bb) h h'∧(∀ b∈bv',b.ins≠[]→h.n≤b.r)∧∀ b'∈bv',∀ x∈b'.ins,∃ b∈bv,x∈b.ins) :=
  once_ex h bb bv { f with blocks:=sL bv } A1 c1 A2 c2 c3 rfl (by have:=hok.pos;rwa [sL_length] at this) (by have:=hok.len;rwa [sL_length] at this) hob hok.r0 hok.r1 hok.tgt (fun b hb=>Nat.le_trans (sizeS_le hb) hok.size) hok.fit hok.tfit
set_option maxRecDepth 100000 in
theorem code_ex (h:Hp) (bb:Nat) (bv:List BV) (f:FuncS) (A1:Option Addr) (c1:Nat) (A2:Option Addr) (c2 c3:Nat) (hob:OwnB h bb bv) (hok:OkL f.regs (sL bv)) :
    EX Tryd.prog 14 [.agg ⟨funcC { f with blocks:=sL bv } A1 c1 A2 c2 (some ⟨bb,0,none⟩) c3⟩] h (fun v h'=>∃ bv',v=.agg ⟨funcC { f with blocks:=sL bv' } A1 c1 A2 c2 (some ⟨bb,0,none⟩) c3⟩∧OwnB h' bb bv'∧CodeS f.regs (sL bv) (sL bv')∧OffS (fun j=>j=bb) h h'∧(∀ b∈bv',b.ins≠[]→h.n≤b.r)∧∀ b'∈bv',∀ x∈b'.ins,∃ b∈bv,x∈b.ins):=by
  refine EX.intro (fn:=Tryd.f14) (c:=(Tryd.f14.body.getD .skip)) Tryd.func14 (by kernel_rfl) Tryd.ntmps14 (by kernel_rfl) fun π s0=>?_
  conv=>arg 2;whnf
  have hd:=s0.dom
  ((with_reducible apply W.seq);repeat (first|((with_reducible apply RS.alloc);iterate 2 exact rfl)|((with_reducible apply RS.box);iterate 3 exact rfl)|((with_reducible apply RS.nil);exact mixed;kernel_rfl)|((with_reducible apply W.reg);kernel_rfl)|(with_reducible first|apply W.block|apply thenK_n)))
  refine W.absorbX fun B0 π0 a0=>?_
  have hF0:B0.m (π 0)=some ⟨⟨funcC { f with blocks:=sL bv } A1 c1 A2 c2 (some ⟨bb,0,none⟩) c3⟩,37⟩:=a0.loc 0 (Nat.lt_of_lt_of_le Nat.zero_lt_one (Nat.le_succ 1))
  have hfb:h.n≤π 0:=a0.lo 0 (Nat.lt_of_lt_of_le Nat.zero_lt_one (Nat.le_succ 1))
  have hrb:h.n≤π 1:=a0.lo 1 (Nat.lt_succ_self 1)
  have hRb0:B0.m (π 1)=some ⟨⟨cellsV (.agg ⟨funcC ⟨⟨#[]⟩,0,0,0,[],[]⟩ none 0 none 0 none 0⟩)⟩,37⟩:=a0.loc 1 (Nat.lt_succ_self 1)
  have hfr:π 0≠π 1:=fun e=>absurd (a0.inj 0 1 (Nat.lt_of_lt_of_le Nat.zero_lt_one (Nat.le_succ 1)) (Nat.lt_succ_self 1) e) (by decide)
  generalize π 0=fb at *
  generalize π 1=rb at *
  have hRw:rwM≤rb:=Nat.le_trans s0.rw hrb
  have hFw:rwM≤fb:=Nat.le_trans s0.rw hfb
  have hbbn:bb < h.n:=hd _ _ hob.m
  have hfbb:¬ fb=bb:=by omega
  have hrbb:¬ rb=bb:=by omega
  repeat (fail)
  refine W.loopN (X:=List BV) (fun _=>[(1,.pointer (some ⟨fb,0,none⟩)),(2,.pointer (some ⟨rb,0,none⟩))])
    (fun bw B=>OwnB B bb bw∧B.m fb=some ⟨⟨funcC { f with blocks:=sL bw } A1 c1 A2 c2 (some ⟨bb,0,none⟩) c3⟩,37⟩∧B.m rb=some ⟨⟨cellsV (.agg ⟨funcC ⟨⟨#[]⟩,0,0,0,[],[]⟩ none 0 none 0 none 0⟩)⟩,37⟩∧OffS (fun j=>j=bb) h B∧OkL f.regs (sL bw)∧(∀ bl',CodeS f.regs (sL bw) bl'→CodeS f.regs (sL bv) bl')∧∀ b'∈bw,∀ x∈b'.ins,∃ b∈bv,x∈b.ins) (fun bw=>sizeS (sL bw))
    (fun B' a=>⟨bv,?_,⟨hob.up (fun i x hx=>a.up _ _ (a0.up _ _ hx)),a.up _ _ hF0,a.up _ _ hRb0,(a0.oldH.trans a.oldH).off,hok,fun _ h=>h,fun b hb x hx=>⟨b,hb,hx⟩⟩⟩) ?_
  · (repeat' (first|exact trivial|exact rfl|apply And.intro));done
  rintro bw B π2 sB ⟨hown,hF,hRb,hoff,hokw,hcode,hsub⟩
  have hFn:=sB.dom _ _ hF
  have hfat:FAt B fb f.regs (some ⟨bb,0,none⟩) c3 (sL bw):=FunB.at (f:={ f with blocks:=sL bw }) ⟨hF,hFw⟩ hown (by rw [sL_length])
  with_reducible apply W.block
  ((with_reducible apply W.seq);repeat (first|((with_reducible apply RS.callA);(iterate 3 exact rfl);exact fun B' hB'=>size_tf fb f.regs (some ⟨bb,0,none⟩) c3 (sL bw) hokw.len hokw.size B' (hfat.up hB'.up))|((with_reducible apply RS.assign);iterate 3 exact rfl)|((with_reducible apply RS.nil);exact mixed;kernel_rfl)|((with_reducible apply W.reg);kernel_rfl)|(with_reducible apply thenK_n)))
  ((with_reducible apply W.seq);repeat (first|((with_reducible apply RS.loadNB);(iterate 3 exact rfl);exact hF;exact hFn;exact Nat.le_of_ble_eq_true rfl;exact rfl)|((with_reducible apply RS.callEx);(iterate 3 exact rfl);intro B2 hB2;refine ⟨_,once_exO B2 bb bw f A1 c1 A2 c2 c3 (hown.up hB2.up) hokw,?_⟩;rintro v H3 π3 ⟨bv',rfl,hown3,honce3,hoff3,hnew3,hsub3⟩ sH3 hle3;have hF3:=(hoff3.2 fb (hB2.dom _ _ (hB2.up _ _ hF)) hfbb).trans (hB2.up _ _ hF);have hF3n:=sH3.dom _ _ hF3)|((with_reducible apply RS.storeB);(iterate 3 exact rfl);exact hF3;exact hF3n;exact hFw;exact Nat.le_of_ble_eq_true rfl;(iterate 2 exact rfl);exact (show setL (funcC { f with blocks:=sL bw } A1 c1 A2 c2 (some ⟨bb,0,none⟩) c3) 0 (funcC { f with blocks:=sL bv' } A1 c1 A2 c2 (some ⟨bb,0,none⟩) c3)=funcC { f with blocks:=sL bv' } A1 c1 A2 c2 (some ⟨bb,0,none⟩) c3 from rfl))|((with_reducible apply RS.nil);exact mixed;kernel_rfl)|((with_reducible apply W.reg);kernel_rfl)|(with_reducible apply thenK_n)))
  have hless:=honce3.less
  have hokn:=hokw.less hless
  have hsz:=hless.size
  have hoff4:OffS (fun j=>j=bb) h H3:=(hoff.same hB2.oldH.off).trans hoff3 fun j _ e=>e
  have hsub4:∀ b'∈bv',∀ x∈b'.ins,∃ b∈bv,x∈b.ins:=fun b' hb' x hx=>(by obtain ⟨b1,h1,h2⟩:=hsub3 b' hb' x hx;exact hsub b1 h1 x h2)
  obtain ⟨X,hX⟩:∃ X:Blk,X=⟨⟨funcC { f with blocks:=sL bv' } A1 c1 A2 c2 (some ⟨bb,0,none⟩) c3⟩,37⟩:=⟨_,rfl⟩
  have hF4:(H3.set fb X).m fb=some ⟨⟨funcC { f with blocks:=sL bv' } A1 c1 A2 c2 (some ⟨bb,0,none⟩) c3⟩,37⟩:=by show (if fb=fb then _ else _)=_;rw [if_pos rfl,hX]
  have hown4:OwnB (H3.set fb X) bb bv':=hown3.up35 fun j x hx he=>(by show (if j=fb then _ else H3.m j)=_;rw [if_neg (ne_of_elem hx hF3 he)];exact hx)
  have hRb3:H3.m rb=some ⟨⟨cellsV (.agg ⟨funcC ⟨⟨#[]⟩,0,0,0,[],[]⟩ none 0 none 0 none 0⟩)⟩,37⟩:=(hoff3.2 rb (hB2.dom _ _ (hB2.up _ _ hRb)) hrbb).trans (hB2.up _ _ hRb)
  have hRb4:(H3.set fb X).m rb=some ⟨⟨cellsV (.agg ⟨funcC ⟨⟨#[]⟩,0,0,0,[],[]⟩ none 0 none 0 none 0⟩)⟩,37⟩:=by show (if rb=fb then _ else H3.m rb)=_;rw [if_neg (fun e=>hfr e.symm)];exact hRb3
  have hRb4n:rb < H3.n:=sH3.dom _ _ hRb3
  have hoff5:OffS (fun j=>j=bb) h (H3.set fb X):=hoff4.trans (OffS.set H3 fb X) fun j hj e=>absurd hfb (by omega)
  have hfat4:FAt (H3.set fb X) fb f.regs (some ⟨bb,0,none⟩) c3 (sL bv'):=FunB.at (f:={ f with blocks:=sL bv' }) ⟨hF4,hFw⟩ hown4 (by rw [sL_length])
  have hd4:∀ i x,(H3.set fb X).m i=some x→i < (H3.set fb X).n:=by
    intro i x hx
    have hx:(if i=fb then _ else H3.m i)=some x:=hx
    split at hx
    · rename_i e;rw [e];exact hF3n
    · exact sH3.dom i x hx
  rw [← hX]
  by_cases hq:sizeS (sL bv')=sizeS (sL bw)
  · repeat (first|((with_reducible apply RS.callA);(iterate 3 exact rfl);exact fun B' hB'=>size_tf fb f.regs (some ⟨bb,0,none⟩) c3 (sL bv') hokn.len hokn.size B' (hfat4.up hB'.up))|((with_reducible apply RS.loadNB);(iterate 3 exact rfl);exact hF4;exact hF3n;exact Nat.le_of_ble_eq_true rfl;exact rfl)|((with_reducible apply RS.storeB);(iterate 3 exact rfl);exact hRb4;exact hRb4n;exact hRw;exact Nat.le_of_ble_eq_true rfl;iterate 3 exact rfl)|((with_reducible apply RS.move);iterate 3 exact rfl)|((with_reducible apply RS.cmpT);(iterate 4 exact rfl);(simp only [cmpP];omega))|((with_reducible apply RS.nil);exact mixed;kernel_rfl)|(with_reducible first|apply W.seq|apply W.ret|apply thenK_n|apply blockK_r|apply roundN_r)|((with_reducible apply W.reg);kernel_rfl)|((with_reducible apply W.condT);kernel_rfl;exact rfl))
    refine endsK_ret _ (.cons (.baseN (vs:=funcC { f with blocks:=sL bv' } A1 c1 A2 c2 (some ⟨bb,0,none⟩) c3) rfl (by show (if rb=rb then _ else _)=_;rw [if_pos rfl]) (Nat.le_of_ble_eq_true rfl) rfl) .nil) fun B' a=>⟨bv',rfl,?_,hcode _ (.stop honce3 hq),(hoff5.trans (OffS.set _ rb _) fun j hj e=>absurd hrb (by omega)).same a.oldH.off,?_,hsub4⟩
    · refine hown4.up35 fun j x hx he=>a.up _ _ ?_
      show (if j=rb then _ else (H3.set fb X).m j)=_
      rw [if_neg (ne_of_elem hx hRb4 he)]
      exact hx
    · exact fun b hb hn=>Nat.le_trans (Nat.le_trans hoff.1 hB2.le) (hnew3 b hb hn)
  · repeat (first|((with_reducible apply RS.callA);(iterate 3 exact rfl);exact fun B' hB'=>size_tf fb f.regs (some ⟨bb,0,none⟩) c3 (sL bv') hokn.len hokn.size B' (hfat4.up hB'.up))|((with_reducible apply RS.move);iterate 3 exact rfl)|((with_reducible apply RS.cmpF);(iterate 4 exact rfl);(simp only [cmpN];omega))|((with_reducible apply RS.nil);exact mixed;kernel_rfl)|(with_reducible first|apply W.seq|apply W.skip|apply thenK_n|apply blockK_n)|((with_reducible apply W.reg);kernel_rfl)|((with_reducible apply W.condF);kernel_rfl;exact rfl))
    refine roundN_n rfl fun B' a=>⟨bv',?_,⟨hown4.up a.up,a.up _ _ hF4,a.up _ _ hRb4,hoff5.same a.oldH.off,hokn,fun bl' h1=>hcode _ (.go honce3 hq h1),hsub4⟩,by omega⟩
    (repeat' (first|exact trivial|exact rfl|apply And.intro));done
end Go.Proofs.YtjhloakacicdiaaDoor
namespace Go.Proofs.YtjhloakacicdiaaDoor
open Go.AH
attribute [local irreducible] W RS
theorem CodeS.less {regs:Int} {bl bl':List BlockS} (h:CodeS regs bl bl'):LessL bl bl':=by
  induction h with
  | stop h _=>exact h.less
  | go h _ _ ih=>exact h.less.trans ih
theorem func_off {B1 H2 B3 H4:Hp} {bb:Nat} {bm:List BV} (o2:OffS (fun j=>j=bb) B1 H2) (o3:Old H2 B3) (o4:OffS (Foot bb bm) B3 H4) (hn:∀ b∈bm,b.ins≠[]→B1.n≤b.r):OffS (fun j=>j=bb) B1 H4 :=
  (o2.trans (T:=fun j=>j=bb) o3.off fun j _ e=>e).trans o4 fun j hj e=>by
    rcases e with e|⟨b,hb,hbn,hbr⟩
    · exact e
    · have:=hn b hb hbn;omega
set_option maxRecDepth 100000 in
theorem func_ex (h:Hp) (bb:Nat) (bv:List BV) (f:FuncS) (A1:Option Addr) (c1:Nat) (A2:Option Addr) (c2 c3:Nat) (hob:OwnB h bb bv) (hok:OkL f.regs (sL bv)) :
    EX Tryd.prog 11 [.agg ⟨funcC { f with blocks:=sL bv } A1 c1 A2 c2 (some ⟨bb,0,none⟩) c3⟩] h (fun v h'=>∃ lb kv bm,v=.agg ⟨funcC { f with blocks:=waysS bm } A1 c1 A2 c2 (some ⟨lb,0,none⟩) (capOf 9)⟩∧OwnB h' lb kv∧CodeS f.regs (sL bv) bm∧sL kv=waysS bm∧OffS (fun j=>j=bb) h h'∧∀ i,Foot lb kv i→i=bb∨h.n≤i):=by
  refine EX.intro (fn:=Tryd.f11) (c:=(Tryd.f11.body.getD .skip)) Tryd.func11 (by kernel_rfl) Tryd.ntmps11 (by kernel_rfl) fun π s0=>?_
  conv=>arg 2;whnf
  have hd:=s0.dom
  ((with_reducible apply W.seq);repeat (first|((with_reducible apply RS.alloc);iterate 2 exact rfl)|((with_reducible apply RS.box);iterate 3 exact rfl)|((with_reducible apply RS.nil);exact mixed;kernel_rfl)|((with_reducible apply W.reg);kernel_rfl)|(with_reducible apply thenK_n)))
  refine W.absorbX fun B0 π0 a0=>?_
  have hF:B0.m (π 0)=some ⟨⟨funcC { f with blocks:=sL bv } A1 c1 A2 c2 (some ⟨bb,0,none⟩) c3⟩,37⟩:=a0.loc 0 (Nat.lt_of_lt_of_le Nat.zero_lt_one (Nat.le_succ 1))
  have hrb:h.n≤π 1:=a0.lo 1 (Nat.lt_succ_self 1)
  have hRb:B0.m (π 1)=some ⟨⟨cellsV (.agg ⟨funcC ⟨⟨#[]⟩,0,0,0,[],[]⟩ none 0 none 0 none 0⟩)⟩,37⟩:=a0.loc 1 (Nat.lt_succ_self 1)
  generalize π 0=fb at *
  generalize π 1=rb at *
  have hFn:=a0.dom _ _ hF
  have hRw:rwM≤rb:=Nat.le_trans s0.rw hrb
  have hbbn:bb < h.n:=hd _ _ hob.m
  have hrbb:¬ rb=bb:=by omega
  repeat (first|((with_reducible apply RS.loadNB);(iterate 3 exact rfl);exact hF;exact hFn;exact Nat.le_of_ble_eq_true rfl;exact rfl)|((with_reducible apply RS.callEx);(iterate 3 exact rfl);first|intro B1 hB1;refine ⟨_,code_ex B1 bb bv f A1 c1 A2 c2 c3 (hob.up (fun i x hx=>hB1.up _ _ (a0.up _ _ hx))) hok,?_⟩;rintro v H2 π2 ⟨bm,rfl,hown2,hcode2,hoff2,hnew2,hsub2⟩ sH2 hle2;have hokm:=hok.less hcode2.less;have hmp:=hokm.pos;have hml:=hokm.len;have hmt:=hokm.size;rw [sL_length] at hmp hml;rw [sizeS_eq] at hmt|intro B3 hB3;refine ⟨_,ways_ex B3 bb bm { f with blocks:=sL bm } A1 c1 A2 c2 c3 rfl hmp hml (hown2.up hB3.up) hokm.tgt hmt,?_⟩;rintro v H4 π4 ⟨lb,kv,rfl,hown4,hsl4,hoff4,hft4⟩ sH4 hle4;have hoff:=func_off hoff2 hB3.oldH hoff4 hnew2;have hRb4:=(hoff.2 rb (hB1.dom _ _ (hB1.up _ _ hRb)) hrbb).trans (hB1.up _ _ hRb);have hRb4n:=sH4.dom _ _ hRb4)|((with_reducible apply RS.storeB);(iterate 3 exact rfl);exact hRb4;exact hRb4n;exact hRw;exact Nat.le_of_ble_eq_true rfl;iterate 3 exact rfl)|((with_reducible apply RS.nil);exact mixed;kernel_rfl)|(with_reducible first|apply W.seq|apply W.ret|apply thenK_n)|((with_reducible apply W.reg);kernel_rfl))
  have oA:OffS (fun j=>j=bb) h H4:=((a0.oldH.trans hB1.oldH).off (S:=fun j=>j=bb)).same hoff
  refine endsK_ret _ (.cons (.baseN (vs:=funcC { f with blocks:=waysS (sL bm) } A1 c1 A2 c2 (some ⟨lb,0,none⟩) (capOf 9)) rfl (by show (if rb=rb then _ else _)=_;rw [if_pos rfl]) (Nat.le_of_ble_eq_true rfl) rfl) .nil) fun B' a=>⟨lb,kv,sL bm,rfl,?_,hcode2,hsl4,(oA.trans (OffS.set _ rb _) fun j hj e=>absurd hrb (by omega)).same a.oldH.off,?_⟩
  · refine hown4.up35 fun j x hx he=>a.up _ _ ?_
    show (if j=rb then _ else H4.m j)=_
    rw [if_neg (ne_of_elem hx hRb4 he)]
    exact hx
  · intro i hi
    have h1:h.n≤B1.n:=Nat.le_trans a0.le hB1.le
    have h2:B1.n≤B3.n:=Nat.le_trans hoff2.1 hB3.le
    rcases hft4 i hi with (e|⟨b,hb,hbn,hbr⟩)|e
    · exact .inl e
    · have:=hnew2 b hb hbn
      exact .inr (by omega)
    · exact .inr (by omega)
end Go.Proofs.YtjhloakacicdiaaDoor
namespace Go.Proofs.YtjhloakacicdiaaDoor
open Go.AH
attribute [local irreducible] W RS
def funcRS (h:Hp) (cs:List Value) (f:FuncS):Prop:=∃ A1 c1 A2 c2 A3 c3 sec,cs=funcC f A1 c1 A2 c2 A3 c3∧sec.length=f.secret∧SlAt h A1 1 sec boolR∧SlAt h A2 1 f.slots intR∧SlAt h A3 9 f.blocks (blockR h)
theorem funcRS_mono {h H:Hp} (hm:∀ i b,h.m i=some b→H.m i=some b) {cs:List Value} {f:FuncS} (r:funcRS h cs f):funcRS H cs f:=by
  obtain ⟨A1,c1,A2,c2,A3,c3,sec,e,h0,s,t,u⟩:=r
  exact ⟨A1,c1,A2,c2,A3,c3,sec,e,h0,s.mono hm fun _ _ h=>h,t.mono hm fun _ _ h=>h,u.mono hm fun _ _ h=>blockR_mono hm h⟩
theorem funcRS.r {h:Hp} {cs:List Value} {f:FuncS} (r:funcRS h cs f):funcR h cs f:=by
  obtain ⟨A1,c1,A2,c2,A3,c3,sec,e,h0,s,t,u⟩:=r
  exact ⟨A1,c1,A2,c2,A3,c3,e,t,u⟩
theorem funcRS.len {h:Hp} {cs:List Value} {f:FuncS} (r:funcRS h cs f):cs.length=6:=by
  obtain ⟨A1,c1,A2,c2,A3,c3,sec,e,_⟩:=r
  rw [e];rfl
structure CopyOK (f:FuncS):Prop where
  pos:0 < f.blocks.length
  sec:f.secret≤1000000
  slots:f.slots.length≤1000000
  len:f.blocks.length≤100000
  ins:∀ b∈f.blocks,b.ins.length≤1000000
  args:∀ b∈f.blocks,∀ x∈b.ins,x.args.length≤1000000
def cutE (h:Hp):Hp where
  m i:=match h.m i with
    | some b=>if b.elem=37∨b.elem=25 then none else some b
    | none=>none
  n:=h.n
theorem cutE_get {h:Hp} {i:Nat} {b:Blk} (hb:(cutE h).m i=some b):h.m i=some b∧b.elem≠37∧b.elem≠25:=by
  unfold cutE at hb
  simp only at hb
  cases hm:h.m i with
  | none=>rw [hm] at hb;cases hb
  | some c =>
    rw [hm] at hb
    simp only at hb
    split at hb
    · cases hb
    · rename_i hn
      injection hb with hb
      subst hb
      rw [not_or] at hn
      exact ⟨rfl,hn⟩
theorem cutE_in {h:Hp} {i:Nat} {b:Blk} (hb:h.m i=some b) (h1:b.elem≠37) (h2:b.elem≠25):(cutE h).m i=some b:=by
  unfold cutE
  simp only [hb]
  rw [if_neg (by rw [not_or];exact ⟨h1,h2⟩)]
theorem cutE_mono {h H:Hp} (hm:∀ i b,h.m i=some b→b.elem≠37→b.elem≠25→H.m i=some b):∀ i b,(cutE h).m i=some b→(cutE H).m i=some b:=fun i b hb=>by
  obtain ⟨h1,h2,h3⟩:=cutE_get hb
  exact cutE_in (hm i b h1 h2 h3) h2 h3
theorem cutE_le {h:Hp}:∀ i b,(cutE h).m i=some b→h.m i=some b:=fun _ _ hb=>(cutE_get hb).1
theorem OwnB.cut {h:Hp} {bb:Nat} {bv:List BV} (o:OwnB h bb bv):OwnB (cutE h) bb bv :=
  ⟨o.rw,cutE_in o.m (by simp) (by simp),fun b hb hn=>⟨(o.row b hb hn).1,cutE_in (o.row b hb hn).2 (by simp) (by simp)⟩,fun b hb x hx hn=>⟨(o.arg b hb x hx hn).1,cutE_in (o.arg b hb x hx hn).2 (by simp) (by simp)⟩,o.sep⟩
def TurnEX (g:FuncId) (K:FuncS→Prop) (R:FuncS→FuncS→Prop):Prop:=∀ (B:Hp) (N bb:Nat) (bv:List BV) (f:FuncS) (A1:Option Addr) (c1:Nat) (A2:Option Addr) (c2:Nat) (sec:List Bool),K f→sec.length=f.secret→rwM≤N→N≤bb→B.m bb=some ⟨⟨(bv.map BV.c).flatten⟩,50⟩→OwnD B N bv→sL bv=f.blocks→RowE B N 4 A1 sec .bool→RowE B N 3 A2 f.slots (.int .i64) →
  EX Tryd.prog g [.agg ⟨funcC f A1 c1 A2 c2 (some ⟨bb,0,none⟩) (capOf 9)⟩] B (fun v h'=>∃ f' cs,v=.agg ⟨cs⟩∧funcRS (cutE h') cs f'∧R f f'∧OffS (fun i=>N≤i) B h')
theorem Absb.part {P:Program} {B B2 H B':Hp} {π:Nat→Nat} {k:Nat} {l l2:List (Nat × Option Blk)} {k2:Nat} (hden:(⟨B,π,k,l⟩:SH).den=H) (hn:B2.n=B.n) (hk:k≤k2) (hl:∀ i,i < k→lookB l2 i=lookB l i) (a:Absb (P:=P) ⟨B2,π,k2,l2⟩ B'):∀ i b,B.n≤i→H.m i=some b→B'.m i=some b:=by
  intro i b hi hb
  rw [← hden] at hb
  simp only [SH.den] at hb
  rw [if_neg (by omega)] at hb
  cases hx:idx π k i with
  | none=>rw [hx] at hb;cases hb
  | some j =>
    rw [hx] at hb
    obtain ⟨g1,g2⟩:=idx_some hx
    have:B'.m (π j)=lookB l2 j:=a.loc j (show j < k2 by omega)
    rw [g2] at this
    rw [this,hl j g1];exact hb
structure EachI (h:Hp) (ob:Nat) (p:ProgS) (A2:Option Addr) (c2:Nat) (R:FuncS→FuncS→Prop) (i r:Nat) (L:List (List Value)) (fs:List FuncS) (B:Hp):Prop where
  le:i≤p.funcs.length
  old:Old h B
  o:B.m ob=some ⟨⟨[rowVl 6 r L,.slice A2 p.globals.length c2,.int .i64 p.data,.int .i64 p.main]⟩,25⟩
  row:L≠[]→h.n≤r∧B.m r=some ⟨⟨L.flatten⟩,37⟩
  len:L.length=i
  flen:fs.length=i
  at_:∀ (j:Nat) (c:List Value) (f':FuncS),L[j]?=some c→fs[j]?=some f'→funcRS (cutE B) c f'
  rel:∀ (j:Nat) (f f':FuncS),p.funcs[j]?=some f→fs[j]?=some f'→R f f'
theorem EachI.up {h:Hp} {ob:Nat} {p:ProgS} {A2:Option Addr} {c2:Nat} {R:FuncS→FuncS→Prop} {i r:Nat} {L:List (List Value)} {fs:List FuncS} {B B':Hp} (s:EachI h ob p A2 c2 R i r L fs B) (hd:∀ i x,B.m i=some x→i < B.n) (o:Old B B'):EachI h ob p A2 c2 R i r L fs B' :=
  ⟨s.le,s.old.trans o,o.up hd _ _ s.o,fun hn=>⟨(s.row hn).1,o.up hd _ _ (s.row hn).2⟩,s.len,s.flen,fun j c f' h1 h2=>funcRS_mono (cutE_mono fun i b hb _ _=>o.up hd i b hb) (s.at_ j c f' h1 h2),s.rel⟩
theorem EachI.wid {h:Hp} {ob:Nat} {p:ProgS} {A2:Option Addr} {c2:Nat} {R:FuncS→FuncS→Prop} {i r:Nat} {L:List (List Value)} {fs:List FuncS} {B:Hp} (s:EachI h ob p A2 c2 R i r L fs B):∀ c∈L,c.length=6:=by
  intro c hc
  obtain ⟨j,hj⟩:=List.mem_iff_getElem?.1 hc
  have hl:=(List.getElem?_eq_some_iff.1 hj).1
  have hll:=s.len
  have hfl:=s.flen
  obtain ⟨f',hf⟩:∃ f',fs[j]?=some f':=⟨_,List.getElem?_eq_getElem (by omega)⟩
  exact (s.at_ j c f' hj hf).len
theorem each_close {h C B2 H7 B':Hp} {ob:Nat} {p:ProgS} {A2:Option Addr} {c2:Nat} {R:FuncS→FuncS→Prop} {i r k7:Nat} {L:List (List Value)} {fs:List FuncS} {π2:Nat→Nat} {l7:List (Nat × Option Blk)} {y:Option Blk} {f f':FuncS} {cs:List Value}
    (hIC:EachI h ob p A2 c2 R i r L fs C) (hdC:∀ i x,C.m i=some x→i < C.n) (hob:h.n≤ob) (hf:p.funcs[i]?=some f) (hden7:(⟨C,π2,k7,l7⟩:SH).den=H7) (hF7:funcRS (cutE H7) cs f') (hRf:R f f') (hn:B2.n=C.n)
    (ho:B2.m ob=some ⟨⟨[rowVl 6 (π2 (k7+1)) (L++[cs]),.slice A2 p.globals.length c2,.int .i64 p.data,.int .i64 p.main]⟩,25⟩) (hB2:∀ j,j≠ob→(L≠[]→j≠r)→B2.m j=C.m j)
    (a:Absb (P:=Tryd.prog) ⟨B2,π2,k7+1+1,(k7+1,some ⟨⟨(L++[cs]).flatten⟩,37⟩)::(k7,y)::l7⟩ B'):EachI h ob p A2 c2 R (i+1) (π2 (k7+1)) (L++[cs]) (fs++[f']) B':=by
  have hil:=(List.getElem?_eq_some_iff.1 hf).1
  have hle:B2.n≤B'.n:=a.le
  have hCo:=hdC _ _ hIC.o
  have keep:∀ i b,C.m i=some b→b.elem≠37→b.elem≠25→B'.m i=some b:=by
    intro j b hb h1 h2
    have hj:=hdC j b hb
    have:B'.m j=B2.m j:=a.old j (show j < B2.n by omega)
    rw [this,hB2 j (ne_of_elem hb hIC.o h2) fun hn=>ne_of_elem hb (hIC.row hn).2 h1]
    exact hb
  have hold:=hIC.old.1
  refine ⟨hil,⟨by omega,fun j hj=>?_⟩,?_,fun _=>⟨?_,?_⟩,by simp [hIC.len],by simp [hIC.flen],fun j c g h1 h2=>?_,fun j x g h1 h2=>?_⟩
  · have:B'.m j=B2.m j:=a.old j (show j < B2.n by omega)
    rw [this,hB2 j (by omega) fun hn=>by have:=(hIC.row hn).1;omega]
    exact hIC.old.2 j hj
  · have:B'.m ob=B2.m ob:=a.old ob (show ob < B2.n by omega)
    rw [this];exact ho
  · have:B2.n≤π2 (k7+1):=a.lo (k7+1) (show k7+1 < k7+1+1 by omega)
    omega
  · have:B'.m (π2 (k7+1))=lookB ((k7+1,some ⟨⟨(L++[cs]).flatten⟩,37⟩)::(k7,y)::l7) (k7+1):=a.loc (k7+1) (show k7+1 < k7+1+1 by omega)
    rw [this,look_cons,if_pos rfl]
  · have hll:=hIC.len
    have hfl:=hIC.flen
    by_cases hj:j < L.length
    · rw [List.getElem?_append_left hj] at h1
      rw [List.getElem?_append_left (by omega)] at h2
      exact funcRS_mono (cutE_mono keep) (hIC.at_ j c g h1 h2)
    · have hjl:j < (L++[cs]).length:=(List.getElem?_eq_some_iff.1 h1).1
      have hje:j=L.length:=by simp at hjl;omega
      rw [List.getElem?_append_right (by omega),hje,Nat.sub_self] at h1
      rw [List.getElem?_append_right (by omega),show j - fs.length=0 by omega] at h2
      simp only [List.getElem?_cons_zero,Option.some.injEq] at h1 h2
      subst h1;subst h2
      refine funcRS_mono (cutE_mono fun q b hb e1 e2=>?_) hF7
      by_cases hq:q < C.n
      · refine keep q b ?_ e1 e2
        rw [← hden7] at hb
        simp only [SH.den] at hb
        rw [if_pos hq] at hb
        exact hb
      · refine Absb.part hden7 hn (show k7≤k7+1+1 by omega) (fun z hz=>?_) a q b (by omega) hb
        rw [look_cons,if_neg (show ¬ k7+1=z by omega),look_cons,if_neg (show ¬ k7=z by omega)]
  · have hfl:=hIC.flen
    by_cases hj:j < fs.length
    · rw [List.getElem?_append_left hj] at h2
      exact hIC.rel j x g h1 h2
    · have hjl:j < (fs++[f']).length:=(List.getElem?_eq_some_iff.1 h2).1
      have hje:j=fs.length:=by simp at hjl;omega
      rw [List.getElem?_append_right (by omega),hje,Nat.sub_self] at h2
      rw [hje,hfl,hf] at h1
      simp only [List.getElem?_cons_zero,Option.some.injEq] at h1 h2
      subst h1;subst h2
      exact hRf
theorem lookHd (k:Nat) (b:Option Blk) (l:List (Nat × Option Blk)):lookB ((k,b)::l) k=b:=by rw [look_cons,if_pos rfl]
set_option maxRecDepth 100000 in
theorem each_ex (g:FuncId) [hgf:GF Tryd.prog g] (K:FuncS→Prop) (R:FuncS→FuncS→Prop) (ht:TurnEX g K R) (p:ProgS) (hK:∀ f∈p.funcs,K f∧CopyOK f) (hn:p.funcs.length≤100000) (h:Hp) (pb:Nat) (e:TypeId) (A1:Option Addr) (c1:Nat) (A2:Option Addr) (c2:Nat) (hP:h.m pb=some ⟨⟨progC p A1 c1 A2 c2⟩,e⟩) (hs:SlAt h A1 6 p.funcs (funcRS h)) :
    EX Tryd.prog 23 [.pointer (some ⟨pb,0,none⟩),.func (.func g) #[] #[]] h (fun v h'=>∃ ob A c fs,v=.pointer (some ⟨ob,0,none⟩)∧h'.m ob=some ⟨⟨progC { p with funcs:=fs } A c A2 c2⟩,25⟩∧SlAt h' A 6 fs (funcRS h')∧fs.length=p.funcs.length∧(∀ (i:Nat) (f f':FuncS),p.funcs[i]?=some f→fs[i]?=some f'→R f f')∧Old h h'∧h.n≤ob):=by
  refine EX.intro (fn:=Tryd.f23) (c:=(Tryd.f23.body.getD .skip)) Tryd.func23 (by kernel_rfl) Tryd.ntmps23 (by kernel_rfl) fun π s0=>?_
  conv=>arg 2;whnf
  have hd:=s0.dom
  have hPn:=hd _ _ hP
  ((with_reducible apply W.seq);repeat (first|((with_reducible apply RS.assign);iterate 3 exact rfl)|((with_reducible apply RS.nil);exact mixed;kernel_rfl)|((with_reducible apply W.reg);kernel_rfl)|(with_reducible apply thenK_n)))
  ((with_reducible apply W.seq);repeat (fail))
  ((with_reducible apply W.seq);repeat (first|((with_reducible apply RS.eqPtrNil);iterate 4 exact rfl)|((with_reducible apply RS.move);iterate 3 exact rfl)|((with_reducible apply RS.nil);exact mixed;kernel_rfl)|((with_reducible apply W.reg);kernel_rfl)|(with_reducible first|apply W.skip|apply thenK_n)|((with_reducible apply W.condF);kernel_rfl;exact rfl)))
  ((with_reducible apply W.seq);repeat (first|((with_reducible apply RS.loadNB);(iterate 3 exact rfl);exact hP;exact hPn;exact Nat.le_of_ble_eq_true rfl;exact rfl)|((with_reducible first|apply RS.nilCheck|apply RS.move);iterate 3 exact rfl)|((with_reducible apply RS.store);(iterate 5 exact rfl);exact Nat.le_of_ble_eq_true rfl;iterate 3 exact rfl)|((with_reducible apply RS.alloc);iterate 2 exact rfl)|((with_reducible apply RS.nil);exact mixed;kernel_rfl)|((with_reducible apply W.reg);kernel_rfl)|(with_reducible apply thenK_n)))
  ((with_reducible apply W.seq);repeat (first|((with_reducible apply RS.fieldAddr);iterate 3 exact rfl)|((with_reducible apply RS.store);(iterate 5 exact rfl);exact Nat.le_of_ble_eq_true rfl;iterate 3 exact rfl)|((with_reducible apply RS.nil);exact mixed;kernel_rfl)|((with_reducible apply W.reg);kernel_rfl)|(with_reducible apply thenK_n)))
  refine W.absorbX fun B0 π0 a0=>?_
  have hO0:B0.m (π 0)=some ⟨⟨[.slice none 0 0,.slice A2 p.globals.length c2,.int .i64 p.data,.int .i64 p.main]⟩,25⟩:=a0.loc 0 (Nat.lt_succ_self 0)
  have hob:h.n≤π 0:=a0.lo 0 (Nat.lt_succ_self 0)
  generalize π 0=ob at *
  have hobr:rwM≤ob:=Nat.le_trans s0.rw hob
  replace hP:=a0.up _ _ hP
  replace hPn:=a0.dom _ _ hP
  ((with_reducible apply W.seq);repeat (fail))
  ((with_reducible apply W.seq);repeat (first|((with_reducible apply RS.load1B);(iterate 3 exact rfl);exact hP;exact hPn;exact rfl)|((with_reducible first|apply RS.nilCheck|apply RS.move|apply RS.lenSl|apply RS.fieldAddr);iterate 3 exact rfl)|((with_reducible apply RS.nil);exact mixed;kernel_rfl)|((with_reducible apply W.reg);kernel_rfl)|(with_reducible first|apply W.block|apply thenK_n)))
  refine W.loopN (X:=Nat × Nat × List (List Value) × List FuncS) (fun x=>[(1,.func (.func g) #[] #[]),(5,.pointer (some ⟨ob,0,none⟩)),(17,.slice A1 p.funcs.length c1),(18,.int .i64 (p.funcs.length:Int)),(19,.int .i64 (x.1:Int))])
    (fun x B=>EachI h ob p A2 c2 R x.1 x.2.1 x.2.2.1 x.2.2.2 B) (fun x=>p.funcs.length - x.1)
    (fun B' a=>⟨(0,0,[],[]),?_,⟨Nat.zero_le _,a0.oldH.trans a.oldH,a.up _ _ hO0,fun hn=>absurd rfl hn,rfl,rfl,(fun j c f' h=>by simp at h),(fun j f f' _ h=>by simp at h)⟩⟩) ?_
  · (repeat' (first|exact trivial|exact rfl|apply And.intro));done
  rintro ⟨i,r,L,fs⟩ B π1 sB hI
  dsimp only at hI ⊢
  have hi:=hI.le
  have hO:=hI.o
  have hOn:=sB.dom _ _ hO
  by_cases hlt:i < p.funcs.length
  · obtain ⟨f,hf⟩:∃ f,p.funcs[i]?=some f:=⟨_,List.getElem?_eq_getElem hlt⟩
    obtain ⟨hKf,hC⟩:=hK f (List.mem_of_getElem? hf)
    obtain ⟨gb,go,gcs,ge,rfl,hG0,hGl,hGr⟩:=hs.get i f hf
    have hG:=hI.old.up hd _ _ hG0
    have hGn:=sB.dom _ _ hG
    obtain ⟨B1,d1,B2,d2,B3,d3,sec,hGv,hsec,hsS,hsL,hsB⟩:=hGr
    have hsS:=hsS.mono (hI.old.up hd) fun _ _ h=>h
    have hsL:=hsL.mono (hI.old.up hd) fun _ _ h=>h
    have hsB:=hsB.mono (hI.old.up hd) fun _ _ h=>blockR_mono (hI.old.up hd) h
    ((with_reducible apply W.seq);repeat (first|((with_reducible apply RS.cmpT);(iterate 4 exact rfl);(simp only [cmpP];omega))|((with_reducible apply RS.nil);exact mixed;kernel_rfl)|((with_reducible apply W.reg);kernel_rfl)|(with_reducible apply thenK_n)))
    ((with_reducible apply W.seq);repeat (first|(with_reducible first|apply W.skip|apply thenK_n)|((with_reducible apply W.condT);kernel_rfl;exact rfl)))
    ((with_reducible apply W.seq);repeat (first|(with_reducible apply W.block)))
    ((with_reducible apply W.seq);((with_reducible apply W.reg);kernel_rfl);repeat (first|((with_reducible apply RS.indexAddrS);(iterate 5 exact rfl);omega)|((with_reducible apply RS.loadNB);(iterate 3 exact rfl);exact hG;exact hGn;exact hGl;exact hGv)|((with_reducible apply RS.store);(iterate 5 exact rfl);exact Nat.le_of_ble_eq_true rfl;iterate 3 exact rfl)|((with_reducible apply RS.alloc);iterate 2 exact rfl)|((with_reducible apply RS.nil);exact mixed;kernel_rfl)));(with_reducible apply thenK_n)
    refine W.absorbX fun C π2 a2=>?_
    have hq:C.m (π1 0)=some ⟨⟨funcC f B1 d1 B2 d2 B3 d3⟩,37⟩:=a2.loc 0 (Nat.lt_succ_self 0)
    generalize π1 0=q at *
    have hqn:=a2.dom _ _ hq
    have hIC:=hI.up sB.dom a2.oldH
    have hOC:=hIC.o
    have hOCn:=a2.dom _ _ hOC
    replace hsS:=hsS.mono a2.up fun _ _ h=>h
    replace hsL:=hsL.mono a2.up fun _ _ h=>h
    replace hsB:=hsB.mono a2.up fun _ _ h=>blockR_mono a2.up h
    by_cases hLe:L=[]
    · subst hLe
      repeat (first|((with_reducible apply RS.load1X);(iterate 3 exact rfl);exact hOC;exact hOCn;exact rfl)|((with_reducible apply RS.loadNB);(iterate 3 exact rfl);exact hq;exact hqn;exact Nat.le_of_ble_eq_true rfl;exact rfl)|((with_reducible apply (RS.callY (g0:=12)));(iterate 4 exact rfl);intro B4 he4 hB4;refine ⟨_,copy_ex B4 f B1 d1 B2 d2 B3 d3 sec hsec (hsS.mono hB4.up fun _ _ h=>h) (hsL.mono hB4.up fun _ _ h=>h) (hsB.mono hB4.up fun _ _ h=>blockR_mono hB4.up h) hC.pos hC.sec hC.slots hC.len hC.ins hC.args,(fun v H' ⟨_,_,_,_,_,_,_,_,_,_,_,ho,_,_⟩ i hi=>ho.2 i (Nat.lt_of_lt_of_le hi hB4.le)),?_⟩;rintro v H5 k5 l5 ⟨A1',c1',A2',c2',bb,bv,rfl,hm5,hbb5,hod5,hsl5,ho5,hr1,hr2⟩ sH5 hle5 hden5 hwf5 hk5)|((with_reducible apply (RS.callY (g0:=g)));(iterate 4 exact rfl);intro B6 he6 hB6;rw [hden5] at he6;subst he6;refine ⟨_,ht H5 B4.n bb bv f A1' c1' A2' c2' sec hKf hsec (Nat.le_trans hB4.rw hB4.le) hbb5 hm5 hod5 hsl5 hr1 hr2,(fun v H' ⟨_,_,_,_,_,ho⟩ i hi=>ho.2 i (Nat.lt_of_lt_of_le hi hB6.le) (fun e=>absurd (Nat.le_trans hB4.le e) (Nat.not_le.2 hi))),?_⟩;rintro v H7 k7 l7 ⟨f',cs,rfl,⟨E1,e1,E2,e2,E3,e3,sec',rfl,hF7b⟩,hRf,ho7⟩ sH7 hle7 hden7 hwf7 hk7;have hF7:funcRS (cutE H7) (funcC f' E1 e1 E2 e2 E3 e3) f':=⟨E1,e1,E2,e2,E3,e3,sec',rfl,hF7b⟩)|((with_reducible apply RS.buildSlice);iterate 8 exact rfl)|((with_reducible apply RS.appendNil);(iterate 6 exact rfl);exact blt_iff.2 (Nat.lt_succ_self _);exact lookHd _ _ _;exact Nat.le_of_ble_eq_true rfl;exact Nat.zero_lt_one;decide;decide)|((with_reducible apply (RS.nilP mixed [(1,2),(0,2),(2,3),(1,3),(0,3),(2,4),(1,4),(0,4),(1,5),(0,5),(1,6),(0,6)]));kernel_rfl;(repeat (refine ⟨fun x y hx hy=>(by obtain rfl:=Option.some.inj hx;obtain rfl:=Option.some.inj hy;exact pairR_free rfl rfl rfl rfl rfl rfl rfl (Nat.zero_le _) rfl),?_⟩));exact trivial;exact rfl)|((with_reducible apply RS.storeB);(iterate 3 exact rfl);exact hOC;exact hOCn;exact hobr;exact Nat.le_of_ble_eq_true rfl;iterate 3 exact rfl)|((with_reducible first|apply RS.move|apply RS.fieldAddr);iterate 3 exact rfl)|((with_reducible apply RS.add1);(iterate 4 exact rfl);omega)|((with_reducible apply RS.nil);exact mixed;kernel_rfl)|((with_reducible apply W.reg);kernel_rfl)|(with_reducible first|apply thenK_n|apply blockK_n))
      refine roundN_n rfl fun B' a=>⟨(i+1,π2 (k7+1),[funcC f' E1 e1 E2 e2 E3 e3],fs++[f']),?_,?_,?_⟩
      · (repeat' (first|exact trivial|exact rfl|apply And.intro));done
      · refine each_close hIC a2.dom hob hf hden7 hF7 hRf (by rfl) (by show (if ob=ob then _ else _)=_;rw [if_pos rfl];rfl) (fun j hj _=>by show (if j=ob then _ else C.m j)=_;rw [if_neg hj]) a
      · show p.funcs.length - (i+1) < p.funcs.length - i
        omega
    · have hrv:=rowVl_ne (sz:=6) (r:=r) hLe
      rw [hrv] at hOC
      obtain ⟨hrh,hrC⟩:=hIC.row hLe
      have hrCn:=a2.dom _ _ hrC
      have hrCw:rwM≤r:=Nat.le_trans s0.rw hrh
      have hLl:L.flatten.length=L.length * 6:=flat_len hI.wid
      have hLi:=hI.len
      have hrob:ob≠r:=ne_of_elem hOC hrC (by simp)
      have hOCk:(C.kill r).m ob=some ⟨⟨[.slice (some ⟨r,0,none⟩) L.length (capOf 6),.slice A2 p.globals.length c2,.int .i64 p.data,.int .i64 p.main]⟩,25⟩:=by
        show (if ob=r then none else C.m ob)=_
        rw [if_neg hrob];exact hOC
      repeat (first|((with_reducible apply RS.load1X);(iterate 3 exact rfl);exact hOC;exact hOCn;exact rfl)|((with_reducible apply RS.loadNB);(iterate 3 exact rfl);exact hq;exact hqn;exact Nat.le_of_ble_eq_true rfl;exact rfl)|((with_reducible apply (RS.callY (g0:=12)));(iterate 4 exact rfl);intro B4 he4 hB4;refine ⟨_,copy_ex B4 f B1 d1 B2 d2 B3 d3 sec hsec (hsS.mono hB4.up fun _ _ h=>h) (hsL.mono hB4.up fun _ _ h=>h) (hsB.mono hB4.up fun _ _ h=>blockR_mono hB4.up h) hC.pos hC.sec hC.slots hC.len hC.ins hC.args,(fun v H' ⟨_,_,_,_,_,_,_,_,_,_,_,ho,_,_⟩ i hi=>ho.2 i (Nat.lt_of_lt_of_le hi hB4.le)),?_⟩;rintro v H5 k5 l5 ⟨A1',c1',A2',c2',bb,bv,rfl,hm5,hbb5,hod5,hsl5,ho5,hr1,hr2⟩ sH5 hle5 hden5 hwf5 hk5)|((with_reducible apply (RS.callY (g0:=g)));(iterate 4 exact rfl);intro B6 he6 hB6;rw [hden5] at he6;subst he6;refine ⟨_,ht H5 B4.n bb bv f A1' c1' A2' c2' sec hKf hsec (Nat.le_trans hB4.rw hB4.le) hbb5 hm5 hod5 hsl5 hr1 hr2,(fun v H' ⟨_,_,_,_,_,ho⟩ i hi=>ho.2 i (Nat.lt_of_lt_of_le hi hB6.le) (fun e=>absurd (Nat.le_trans hB4.le e) (Nat.not_le.2 hi))),?_⟩;rintro v H7 k7 l7 ⟨f',cs,rfl,⟨E1,e1,E2,e2,E3,e3,sec',rfl,hF7b⟩,hRf,ho7⟩ sH7 hle7 hden7 hwf7 hk7;have hF7:funcRS (cutE H7) (funcC f' E1 e1 E2 e2 E3 e3) f':=⟨E1,e1,E2,e2,E3,e3,sec',rfl,hF7b⟩)|((with_reducible apply RS.buildSlice);iterate 8 exact rfl)|((with_reducible apply RS.growL);(iterate 6 exact rfl);exact hrC;exact hrCn;exact hrCw;exact hLl;exact Nat.lt_succ_self _;exact lookHd _ _ _;(iterate 2 exact rfl);omega;omega)|((with_reducible apply (RS.nilP mixed [(1,2),(0,2),(2,3),(1,3),(0,3),(2,4),(1,4),(0,4),(1,5),(0,5),(1,6),(0,6)]));kernel_rfl;(repeat (refine ⟨fun x y hx hy=>(by obtain rfl:=Option.some.inj hx;obtain rfl:=Option.some.inj hy;exact pairR_free rfl rfl rfl rfl rfl rfl rfl (Nat.zero_le _) rfl),?_⟩));exact trivial;exact rfl)|((with_reducible apply RS.storeB);(iterate 3 exact rfl);exact hOCk;exact hOCn;exact hobr;exact Nat.le_of_ble_eq_true rfl;iterate 3 exact rfl)|((with_reducible first|apply RS.move|apply RS.fieldAddr);iterate 3 exact rfl)|((with_reducible apply RS.add1);(iterate 4 exact rfl);omega)|((with_reducible apply RS.nil);exact mixed;kernel_rfl)|((with_reducible apply W.reg);kernel_rfl)|(with_reducible first|apply thenK_n|apply blockK_n))
      have hrv2:rowVl 6 (π2 (k7+1)) (L++[funcC f' E1 e1 E2 e2 E3 e3])=.slice (some ⟨π2 (k7+1),0,none⟩) (L.length+1) (capOf 6):=by rw [rowVl_ne (by simp)];simp
      have hfl2:(L++[funcC f' E1 e1 E2 e2 E3 e3]).flatten=L.flatten++funcC f' E1 e1 E2 e2 E3 e3:=by simp
      refine roundN_n rfl fun B' a=>⟨(i+1,π2 (k7+1),L++[funcC f' E1 e1 E2 e2 E3 e3],fs++[f']),?_,?_,?_⟩
      · (repeat' (first|exact trivial|exact rfl|apply And.intro));done
      · refine each_close (L:=L) (B2:=(C.kill r).set ob ⟨⟨[.slice (some ⟨π2 (k7+1),0,none⟩) (L.length+1) (capOf 6),.slice A2 p.globals.length c2,.int .i64 p.data,.int .i64 p.main]⟩,25⟩) hIC a2.dom hob hf hden7 hF7 hRf (by rfl) (by rw [hrv2];show (if ob=ob then _ else _)=_;rw [if_pos rfl]) (fun j hj hjr=>by show (if j=ob then _ else (if j=r then none else C.m j))=_;rw [if_neg hj,if_neg (hjr hLe)]) (by rw [hfl2];exact a)
      · show p.funcs.length - (i+1) < p.funcs.length - i
        omega
  · have hii:i=p.funcs.length:=by omega
    have hll:=hI.len
    have hfl:=hI.flen
    obtain ⟨A,hA⟩:∃ A:Option Addr,A=if L=[] then none else some ⟨r,0,none⟩:=⟨_,rfl⟩
    obtain ⟨c,hc⟩:∃ c:Nat,c=if L=[] then 0 else capOf 6:=⟨_,rfl⟩
    rw [rowVl_eq,← hA,← hc,show L.length=fs.length by omega] at hO
    repeat (first|((with_reducible apply RS.assign);iterate 3 exact rfl)|((with_reducible apply RS.cmpF);(iterate 4 exact rfl);(simp only [cmpN];omega))|((with_reducible apply RS.nil);exact mixed;kernel_rfl)|(with_reducible first|apply W.seq|apply W.exit|apply W.ret|apply thenK_n|apply thenK_e|apply roundN_e)|((with_reducible apply W.reg);kernel_rfl)|((with_reducible apply W.condF);kernel_rfl;exact rfl)|((with_reducible apply blockK_hit);exact rfl))
    refine endsK_ret _ (.cons (.tmp rfl) .nil) fun B' a=>⟨ob,A,c,fs,rfl,a.up _ _ hO,⟨fun j f' hf'=>?_⟩,by omega,hI.rel,hI.old.trans a.oldH,hob⟩
    have hj:=(List.getElem?_eq_some_iff.1 hf').1
    obtain ⟨cs,hcs⟩:∃ cs,L[j]?=some cs:=⟨_,List.getElem?_eq_getElem (by omega)⟩
    have hne:L≠[]:=by intro e;rw [e] at hcs;simp at hcs
    rw [if_neg hne] at hA
    obtain ⟨t1,t2⟩:=flat_take hI.wid hcs
    refine ⟨r,0,L.flatten,37,hA,a.up _ _ (hI.row hne).2,by omega,?_⟩
    rw [Nat.zero_add,t1]
    exact funcRS_mono (fun i b hb=>a.up _ _ (cutE_le i b hb)) (hI.at_ j cs f' hcs hf')
end Go.Proofs.YtjhloakacicdiaaDoor
namespace Go.Proofs.YtjhloakacicdiaaDoor
open Go.AH
attribute [local irreducible] W RS
def lightG (g:GlobS):Bool:=decide (g.place≤4096) && decide (g.size≤4096) && decide (g.parts.length≤50) && g.parts.all (fun x=>decide (x.data.length≤4096))
def lightI:List InsS→Nat→Option Nat
  | [],n=>some n
  | x::l,n=>if n+x.args.length≤4000∧-1073741824≤x.off∧x.off≤1073741824 then lightI l (n+x.args.length) else none
def lightB:List BlockS→Nat→Option Nat
  | [],n=>some n
  | b::l,n=>if n+b.ins.length≤2000 then (lightI b.ins (n+b.ins.length)).bind (lightB l) else none
def lightS (f:FuncS):Bool:=f.slots.all (fun s=>decide (0≤s) && decide (s≤1000) && decide (f.slots.length≤4))
def lightF:List FuncS→Nat→Option Nat
  | [],n=>some n
  | f::l,n=>if n+(1+f.blocks.length+f.slots.length)≤2000∧0≤f.regs∧f.regs≤300∧lightS f=true then (lightB f.blocks (n+(1+f.blocks.length+f.slots.length))).bind (lightF l) else none
def lightP (p:ProgS):Bool:=decide (p.funcs.length≤20) && decide (p.globals.length≤20) && decide (0≤p.data) && decide (p.data≤4096) && p.globals.all lightG && (lightF p.funcs 0).isSome
theorem drop_get {α:Type} {l:List α} {i:Nat} {x:α} (h:l[i]?=some x):l.drop i=x::l.drop (i+1):=by
  have hlt:=(List.getElem?_eq_some_iff.1 h).1
  rw [List.drop_eq_getElem_cons hlt]
  rw [List.getElem?_eq_getElem hlt] at h
  injection h with h
  rw [h]
theorem lightP_of {p:ProgS} (h1:p.funcs.length≤20) (h2:p.globals.length≤20) (h3:0≤p.data) (h4:p.data≤4096) (h5:p.globals.all lightG=true):lightP p=(lightF p.funcs 0).isSome:=by
  unfold lightP
  simp [h1,h2,h3,h4,h5]
set_option maxHeartbeats 2000000 in
set_option maxRecDepth 100000 in
theorem Light_tf (p:ProgS) (hok:p.ok) (h:Hp) (P1:Option Addr) (d1:Nat) (P2:Option Addr) (d2:Nat) (hfs:SlAt h P1 6 p.funcs (funcR h)) (hgs:SlAt h P2 4 p.globals (globR h)) :
    TF Tryd.prog 36 ⟨[.agg ⟨progC p P1 d1 P2 d2⟩]⟩ h (.bool (lightP p)) h:=by
  refine TF.dom fun hd=>?_
  have hnf:=hok.nfuncs
  have hng:=hok.nglobs
  refine TF.still (fn:=Tryd.f36) (c:=(Tryd.f36.body.getD .skip)) Tryd.func36 (by kernel_rfl) Tryd.ntmps36 (by kernel_rfl) (by simp) ?_
  conv=>arg 2;whnf
  repeat' (first|((with_reducible first|apply RS.move|apply RS.assign|apply RS.lenSl|apply RS.fieldAddr|apply RS.box);iterate 3 exact rfl)|((with_reducible apply RS.pickT);iterate 4 exact rfl)|((with_reducible apply RS.pickF);iterate 4 exact rfl)|((with_reducible apply RS.cmpC);iterate 5 exact rfl)|((with_reducible apply RS.load1);iterate 6 exact rfl)|((with_reducible apply RS.skip);iterate 2 exact rfl)|((with_reducible apply RS.nil);exact mixed;kernel_rfl)|(with_reducible first|apply W.seq|apply W.block|apply W.ret|apply W.skip|apply thenK_n|apply thenK_r)|((with_reducible apply W.reg);kernel_rfl)|((with_reducible apply W.condT);kernel_rfl;exact rfl)|(((with_reducible apply RS.splitD);iterate 2 exact rfl)<;>intro _)|((((with_reducible apply RS.splitG);iterate 2 exact rfl)<;>intro _)<;>(fail_if_success cases ‹true=false›)<;>(fail_if_success cases ‹false=true›))|(((with_reducible apply W.condD);exact rfl)<;>intro _)|((((with_reducible apply W.cond);exact rfl)<;>intro _)<;>(fail_if_success cases ‹true=false›)<;>(fail_if_success cases ‹false=true›)))
  rotate_left 4
  · rename_i u1 u2 u3 u4
    have hhead:p.globals.all lightG=true→lightP p=(lightF p.funcs 0).isSome:=fun hz=>lightP_of (by omega) (by omega) (by omega) (by omega) hz
    have hgno:p.globals.all lightG=false→lightP p=false:=fun hz=>by unfold lightP;rw [hz];simp
    refine W.loop (X:=Nat) (fun π i=>[(1,.pointer (some ⟨π 0,0,none⟩)),(3,.int .i64 0),(37,.slice P2 p.globals.length d2),(38,.int .i64 p.globals.length),(39,.int .i64 i)]) (fun _=>h) (fun π i=>[(0,some ⟨⟨progC p P1 d1 P2 d2⟩,25⟩)]) (fun i=>i≤p.globals.length∧p.globals.all lightG=(p.globals.drop i).all lightG) (fun i=>p.globals.length - i) [0] 0 ⟨Nat.zero_le _,rfl⟩ (by (refine FitL.mk ?_ ?_ ?_ ?_<;>(repeat' (first|exact trivial|exact rfl|apply And.intro));done)) ?_
    intro π i hI
    obtain ⟨hi,hI⟩:=hI
    dsimp only at hi hI ⊢
    by_cases hlt:i < p.globals.length
    · obtain ⟨g,hg⟩:∃ g,p.globals[i]?=some g:=⟨_,List.getElem?_eq_getElem hlt⟩
      obtain ⟨gb,go,gcs,ge,rfl,hG,hGl,hGv⟩:=hgs.get i g hg
      have hGn:=hd _ _ hG
      obtain ⟨A',c',hGv,hGs⟩:=hGv
      have hgm:=hok.globs g (List.mem_of_getElem? hg)
      have hgn:=hgm.nparts
      rw [all_drop hg] at hI
      have hgf:lightG g=false→lightP p=false:=fun hz=>hgno (by rw [hI,hz];rfl)
      repeat' (first|((with_reducible apply RS.indexAddrS);(iterate 5 exact rfl);omega)|((with_reducible apply RS.loadNB);(iterate 3 exact rfl);exact hG;exact hGn;exact hGl;exact hGv)|((with_reducible first|apply RS.move|apply RS.assign|apply RS.lenSl|apply RS.fieldAddr);iterate 3 exact rfl)|((with_reducible apply RS.pickT);iterate 4 exact rfl)|((with_reducible apply RS.pickF);iterate 4 exact rfl)|((with_reducible apply RS.cmpT);(iterate 4 exact rfl);(simp only [cmpP];omega))|((with_reducible apply RS.cmpC);iterate 5 exact rfl)|((with_reducible apply RS.load1);iterate 6 exact rfl)|((with_reducible apply RS.store);(iterate 5 exact rfl);exact Nat.le_of_ble_eq_true rfl;iterate 3 exact rfl)|((with_reducible apply RS.alloc);iterate 2 exact rfl)|((with_reducible apply RS.skip);iterate 2 exact rfl)|((with_reducible apply RS.nil);exact mixed;kernel_rfl)|(with_reducible first|apply W.seq|apply W.block|apply W.ret|apply W.skip|apply thenK_n|apply thenK_r|apply blockK_r|apply roundK_r)|((with_reducible apply W.reg);kernel_rfl)|((with_reducible apply W.condT);kernel_rfl;exact rfl)|(((with_reducible apply RS.splitD);iterate 2 exact rfl)<;>intro _)|((((with_reducible apply RS.splitG);iterate 2 exact rfl)<;>intro _)<;>(fail_if_success cases ‹true=false›)<;>(fail_if_success cases ‹false=true›))|(((with_reducible apply W.condD);exact rfl)<;>intro _)|((((with_reducible apply W.cond);exact rfl)<;>intro _)<;>(fail_if_success cases ‹true=false›)<;>(fail_if_success cases ‹false=true›)))
      rotate_left 3
      · rename_i v1 v2 v3
        have hgh:lightG g=g.parts.all (fun x=>decide (x.data.length≤4096)):=by
          unfold lightG
          rw [decide_eq_true (by omega:g.place≤4096),decide_eq_true (by omega:g.size≤4096),decide_eq_true (by omega:g.parts.length≤50)]
          simp
        refine W.loop (X:=Nat) (fun π j=>[(1,.pointer (some ⟨π 0,0,none⟩)),(3,.int .i64 0),(37,.slice (some ⟨gb,go,none⟩) p.globals.length d2),(38,.int .i64 p.globals.length),(39,.int .i64 i),(5,.pointer (some ⟨π 1,0,none⟩)),(58,.slice A' g.parts.length c'),(59,.int .i64 g.parts.length),(60,.int .i64 j)]) (fun _=>h) (fun π i=>[(1,some ⟨⟨globC g A' c'⟩,111⟩),(0,some ⟨⟨progC p P1 d1 (some ⟨gb,go,none⟩) d2⟩,25⟩)]) (fun j=>j≤g.parts.length∧g.parts.all (fun x=>decide (x.data.length≤4096))=(g.parts.drop j).all (fun x=>decide (x.data.length≤4096))) (fun j=>g.parts.length - j) [0,1] 0 ⟨Nat.zero_le _,rfl⟩ (by (refine FitL.mk ?_ ?_ ?_ ?_<;>(repeat' (first|exact trivial|exact rfl|apply And.intro));done)) ?_
        intro π j hJ
        obtain ⟨hj,hJ⟩:=hJ
        dsimp only at hj hJ ⊢
        by_cases hlj:j < g.parts.length
        · obtain ⟨x,hx⟩:∃ x,g.parts[j]?=some x:=⟨_,List.getElem?_eq_getElem hlj⟩
          obtain ⟨xb,xo,xcs,xe,rfl,hQ,hQl,hQv⟩:=hGs.get j x hx
          have hQn:=hd _ _ hQ
          obtain ⟨A'',c'',hQv,hQs⟩:=hQv
          have hxn:=(hgm.parts x (List.mem_of_getElem? hx)).ndata
          rw [all_drop hx] at hJ
          repeat' (first|((with_reducible apply RS.indexAddrS);(iterate 5 exact rfl);omega)|((with_reducible apply RS.loadNB);(iterate 3 exact rfl);exact hQ;exact hQn;exact hQl;exact hQv)|((with_reducible first|apply RS.move|apply RS.assign|apply RS.lenSl|apply RS.fieldAddr);iterate 3 exact rfl)|((with_reducible apply RS.cmpT);(iterate 4 exact rfl);(simp only [cmpP];omega))|((with_reducible apply RS.cmpC);iterate 5 exact rfl)|((with_reducible apply RS.add1);(iterate 4 exact rfl);omega)|((with_reducible apply RS.load1);iterate 6 exact rfl)|((with_reducible apply RS.store);(iterate 5 exact rfl);exact Nat.le_of_ble_eq_true rfl;iterate 3 exact rfl)|((with_reducible apply RS.alloc);iterate 2 exact rfl)|((with_reducible apply RS.nil);exact mixed;kernel_rfl)|(with_reducible first|apply W.seq|apply W.block|apply W.ret|apply W.skip|apply thenK_n|apply thenK_r|apply blockK_n|apply blockK_r|apply roundK_r)|((with_reducible apply W.reg);kernel_rfl)|((with_reducible apply W.condT);kernel_rfl;exact rfl)|(((with_reducible apply RS.splitD);iterate 2 exact rfl)<;>intro _)|((((with_reducible apply RS.splitG);iterate 2 exact rfl)<;>intro _)<;>(fail_if_success cases ‹true=false›)<;>(fail_if_success cases ‹false=true›))|(((with_reducible apply W.condD);exact rfl)<;>intro _)|((((with_reducible apply W.cond);exact rfl)<;>intro _)<;>(fail_if_success cases ‹true=false›)<;>(fail_if_success cases ‹false=true›)))
          · refine endsK_ret _ (.cons (.tmp rfl) .nil) ⟨rfl,?_⟩
            have hz:decide (x.data.length≤4096)=false:=by simp;omega
            rw [hz,Bool.false_and] at hJ
            rw [hgf (hgh.trans hJ)];rfl
          · have hz:decide (x.data.length≤4096)=true:=by simp;omega
            rw [hz,Bool.true_and] at hJ
            exact roundK_n (j+1) [0,1] rfl rfl ⟨by omega,hJ⟩ (by omega) (by (refine FitL.mk ?_ ?_ ?_ ?_<;>(repeat' (first|exact trivial|exact rfl|apply And.intro));done))
        · repeat (first|((with_reducible apply RS.move);iterate 3 exact rfl)|((with_reducible apply RS.cmpF);(iterate 4 exact rfl);(simp only [cmpN];omega))|((with_reducible apply RS.add1);(iterate 4 exact rfl);omega)|((with_reducible apply RS.nil);exact mixed;kernel_rfl)|(with_reducible first|apply W.seq|apply W.exit|apply thenK_n|apply thenK_e|apply blockK_n|apply roundK_e)|((with_reducible apply W.reg);kernel_rfl)|((with_reducible apply W.condF);kernel_rfl;exact rfl)|((with_reducible apply blockK_hit);exact rfl))
          rw [List.drop_eq_nil_of_le (by omega)] at hJ
          have hz:lightG g=true:=by rw [hgh,hJ];rfl
          rw [hz,Bool.true_and] at hI
          exact roundK_n (i+1) [0] rfl rfl ⟨by omega,hI⟩ (by omega) (by (refine FitL.mk ?_ ?_ ?_ ?_<;>(repeat' (first|exact trivial|exact rfl|apply And.intro));done))
      · refine endsK_ret _ (.cons (.tmp rfl) .nil) ⟨rfl,?_⟩
        rw [hgf (by unfold lightG;simp;omega)];rfl
      · refine endsK_ret _ (.cons (.tmp rfl) .nil) ⟨rfl,?_⟩
        rw [hgf (by unfold lightG;simp;omega)];rfl
      · refine endsK_ret _ (.cons (.tmp rfl) .nil) ⟨rfl,?_⟩
        rw [hgf (by unfold lightG;simp;omega)];rfl
    · repeat (first|((with_reducible first|apply RS.move|apply RS.lenSl|apply RS.fieldAddr);iterate 3 exact rfl)|((with_reducible apply RS.cmpF);(iterate 4 exact rfl);(simp only [cmpN];omega))|((with_reducible apply RS.load1);iterate 6 exact rfl)|((with_reducible apply RS.nil);exact mixed;kernel_rfl)|(with_reducible first|apply W.seq|apply W.block|apply W.exit|apply thenK_n|apply thenK_e|apply roundK_e)|((with_reducible apply W.reg);kernel_rfl)|((with_reducible apply W.condF);kernel_rfl;exact rfl)|((with_reducible apply blockK_hit);exact rfl))
      rw [List.drop_eq_nil_of_le (by omega)] at hI
      have hres:=hhead hI
      refine W.loop (X:=Nat × Nat) (fun π y=>[(1,.pointer (some ⟨π 0,0,none⟩)),(3,.int .i64 y.2),(71,.slice P1 p.funcs.length d1),(72,.int .i64 p.funcs.length),(73,.int .i64 y.1)]) (fun _=>h) (fun π i=>[(0,some ⟨⟨progC p P1 d1 P2 d2⟩,25⟩)]) (fun y=>y.1≤p.funcs.length∧y.2≤4000∧lightP p=(lightF (p.funcs.drop y.1) y.2).isSome) (fun y=>p.funcs.length - y.1) [0] (0,0) ⟨Nat.zero_le _,Nat.zero_le _,hres⟩ (by (refine FitL.mk ?_ ?_ ?_ ?_<;>(repeat' (first|exact trivial|exact rfl|apply And.intro));done)) ?_
      intro π y hI
      obtain ⟨i,n⟩:=y
      obtain ⟨hi,hn,hI⟩:=hI
      dsimp only at hi hn hI ⊢
      by_cases hlt:i < p.funcs.length
      · obtain ⟨f,hf⟩:∃ g,p.funcs[i]?=some g:=⟨_,List.getElem?_eq_getElem hlt⟩
        obtain ⟨fb,fo,fcs,fe,rfl,hF,hFl,hFv⟩:=hfs.get i f hf
        have hFn:=hd _ _ hF
        obtain ⟨F1,c1,F2,c2,F3,c3,hFv,hFsl,hFbl⟩:=hFv
        have hfm:=hok.funcs f (List.mem_of_getElem? hf)
        have hnb:=hfm.nblocks
        have hns:=hfm.nslots
        rw [drop_get hf] at hI
        repeat' (first|((with_reducible apply RS.indexAddrS);(iterate 5 exact rfl);omega)|((with_reducible apply RS.loadNB);(iterate 3 exact rfl);exact hF;exact hFn;exact hFl;exact hFv)|((with_reducible first|apply RS.move|apply RS.assign|apply RS.lenSl|apply RS.fieldAddr);iterate 3 exact rfl)|((with_reducible apply RS.pickT);iterate 4 exact rfl)|((with_reducible apply RS.pickF);iterate 4 exact rfl)|((with_reducible apply RS.cmpT);(iterate 4 exact rfl);(simp only [cmpP];omega))|((with_reducible apply RS.cmpC);iterate 5 exact rfl)|((with_reducible apply RS.binFit);(iterate 5 exact rfl);omega)|((with_reducible apply RS.load1);iterate 6 exact rfl)|((with_reducible apply RS.store);(iterate 5 exact rfl);exact Nat.le_of_ble_eq_true rfl;iterate 3 exact rfl)|((with_reducible apply RS.alloc);iterate 2 exact rfl)|((with_reducible apply RS.skip);iterate 2 exact rfl)|((with_reducible apply RS.nil);exact mixed;kernel_rfl)|(with_reducible first|apply W.seq|apply W.block|apply W.ret|apply W.skip|apply thenK_n|apply thenK_r|apply blockK_r|apply roundK_r)|((with_reducible apply W.reg);kernel_rfl)|((with_reducible apply W.condT);kernel_rfl;exact rfl)|(((with_reducible apply RS.splitD);iterate 2 exact rfl)<;>intro _)|((((with_reducible apply RS.splitG);iterate 2 exact rfl)<;>intro _)<;>(fail_if_success cases ‹true=false›)<;>(fail_if_success cases ‹false=true›))|(((with_reducible apply W.condD);exact rfl)<;>intro _)|((((with_reducible apply W.cond);exact rfl)<;>intro _)<;>(fail_if_success cases ‹true=false›)<;>(fail_if_success cases ‹false=true›)))
        rotate_left 3
        · rename_i w1 w2 w3
          have hm:n+(1+f.blocks.length+f.slots.length)≤2000:=by omega
          have hcv:(n:Int)+(1+(f.blocks.length:Int)+(f.slots.length:Int))=((n+(1+f.blocks.length+f.slots.length):Nat):Int):=by omega
          have hfy:lightS f=true→lightP p=((lightB f.blocks (n+(1+f.blocks.length+f.slots.length))).bind (lightF (p.funcs.drop (i+1)))).isSome:=fun hz=>by rw [hI];show (if _ then _ else _:Option Nat).isSome=_;rw [if_pos ⟨hm,by omega,by omega,hz⟩]
          have hfn:lightS f=false→lightP p=false:=fun hz=>by rw [hI];show (if _ then _ else _:Option Nat).isSome=_;rw [if_neg (fun hh=>by rw [hh.2.2.2] at hz;cases hz)];rfl
          rw [hcv]
          clear hI hcv
          generalize hM:n+(1+f.blocks.length+f.slots.length)=m at *
          refine W.loop (X:=Nat) (fun π j=>[(1,.pointer (some ⟨π 0,0,none⟩)),(3,.int .i64 m),(71,.slice (some ⟨fb,fo,none⟩) p.funcs.length d1),(72,.int .i64 p.funcs.length),(73,.int .i64 i),(9,.pointer (some ⟨π 1,0,none⟩)),(100,.slice F2 f.slots.length c2),(101,.int .i64 f.slots.length),(102,.int .i64 j)]) (fun _=>h) (fun π i=>[(1,some ⟨⟨funcC f F1 c1 F2 c2 F3 c3⟩,37⟩),(0,some ⟨⟨progC p (some ⟨fb,fo,none⟩) d1 P2 d2⟩,25⟩)]) (fun j=>j≤f.slots.length∧lightS f=(f.slots.drop j).all (fun s=>decide (0≤s) && decide (s≤1000) && decide (f.slots.length≤4))) (fun j=>f.slots.length - j) [0,1] 0 ⟨Nat.zero_le _,rfl⟩ (by (refine FitL.mk ?_ ?_ ?_ ?_<;>(repeat' (first|exact trivial|exact rfl|apply And.intro));done)) ?_
          intro π j hJ
          obtain ⟨hj,hJ⟩:=hJ
          dsimp only at hj hJ ⊢
          by_cases hlj:j < f.slots.length
          · obtain ⟨s,hs⟩:∃ x,f.slots[j]?=some x:=⟨_,List.getElem?_eq_getElem hlj⟩
            obtain ⟨zb,zo,zcs,ze,rfl,hZ,hZl,hZv⟩:=hFsl.get j s hs
            have hZn:=hd _ _ hZ
            have hZc:=take_nth (j:=0) hZv rfl
            rw [all_drop hs] at hJ
            repeat' (first|((with_reducible apply RS.indexAddrS);(iterate 5 exact rfl);omega)|((with_reducible apply RS.load1B);(iterate 3 exact rfl);exact hZ;exact hZn;exact hZc)|((with_reducible first|apply RS.move|apply RS.assign|apply RS.lenSl|apply RS.fieldAddr);iterate 3 exact rfl)|((with_reducible apply RS.pickT);iterate 4 exact rfl)|((with_reducible apply RS.pickF);iterate 4 exact rfl)|((with_reducible apply RS.cmpT);(iterate 4 exact rfl);(simp only [cmpP];omega))|((with_reducible apply RS.cmpC);iterate 5 exact rfl)|((with_reducible apply RS.add1);(iterate 4 exact rfl);omega)|((with_reducible apply RS.load1);iterate 6 exact rfl)|((with_reducible apply RS.skip);iterate 2 exact rfl)|((with_reducible apply RS.nil);exact mixed;kernel_rfl)|(with_reducible first|apply W.seq|apply W.block|apply W.ret|apply W.skip|apply thenK_n|apply thenK_r|apply blockK_n|apply blockK_r|apply roundK_r)|((with_reducible apply W.reg);kernel_rfl)|((with_reducible apply W.condT);kernel_rfl;exact rfl)|(((with_reducible apply RS.splitD);iterate 2 exact rfl)<;>intro _)|((((with_reducible apply RS.splitG);iterate 2 exact rfl)<;>intro _)<;>(fail_if_success cases ‹true=false›)<;>(fail_if_success cases ‹false=true›))|(((with_reducible apply W.condD);exact rfl)<;>intro _)|((((with_reducible apply W.cond);exact rfl)<;>intro _)<;>(fail_if_success cases ‹true=false›)<;>(fail_if_success cases ‹false=true›)))
            rotate_left 3
            · rw [show (decide (0≤s) && decide (s≤1000) && decide (f.slots.length≤4))=true by simp;omega,Bool.true_and] at hJ
              exact roundK_n (j+1) [0,1] rfl rfl ⟨by omega,hJ⟩ (by omega) (by (refine FitL.mk ?_ ?_ ?_ ?_<;>(repeat' (first|exact trivial|exact rfl|apply And.intro));done))
            all_goals refine endsK_ret _ (.cons (.tmp rfl) .nil) ⟨rfl,?_⟩
            all_goals rw [show (decide (0≤s) && decide (s≤1000) && decide (f.slots.length≤4))=false by simp;omega,Bool.false_and] at hJ
            all_goals rw [hfn hJ];rfl
          · repeat (first|((with_reducible first|apply RS.move|apply RS.lenSl|apply RS.fieldAddr);iterate 3 exact rfl)|((with_reducible apply RS.cmpF);(iterate 4 exact rfl);(simp only [cmpN];omega))|((with_reducible apply RS.load1);iterate 6 exact rfl)|((with_reducible apply RS.nil);exact mixed;kernel_rfl)|(with_reducible first|apply W.seq|apply W.block|apply W.exit|apply thenK_n|apply thenK_e|apply roundK_e)|((with_reducible apply W.reg);kernel_rfl)|((with_reducible apply W.condF);kernel_rfl;exact rfl)|((with_reducible apply blockK_hit);exact rfl))
            rw [List.drop_eq_nil_of_le (by omega)] at hJ
            refine W.loop (X:=Nat × Nat) (fun π y=>[(1,.pointer (some ⟨π 0,0,none⟩)),(3,.int .i64 y.2),(71,.slice (some ⟨fb,fo,none⟩) p.funcs.length d1),(72,.int .i64 p.funcs.length),(73,.int .i64 i),(9,.pointer (some ⟨π 1,0,none⟩)),(120,.slice F3 f.blocks.length c3),(121,.int .i64 f.blocks.length),(122,.int .i64 y.1)]) (fun _=>h) (fun π i=>[(1,some ⟨⟨funcC f F1 c1 F2 c2 F3 c3⟩,37⟩),(0,some ⟨⟨progC p (some ⟨fb,fo,none⟩) d1 P2 d2⟩,25⟩)]) (fun y=>y.1≤f.blocks.length∧y.2≤4000∧lightP p=((lightB (f.blocks.drop y.1) y.2).bind (lightF (p.funcs.drop (i+1)))).isSome) (fun y=>f.blocks.length - y.1) [0,1] (0,m) ⟨Nat.zero_le _,by omega,hfy hJ⟩ (by (refine FitL.mk ?_ ?_ ?_ ?_<;>(repeat' (first|exact trivial|exact rfl|apply And.intro));done)) ?_
            clear hj hJ hlj hfy hfn
            intro π y hJ
            obtain ⟨j,m⟩:=y
            obtain ⟨hj,hm4,hJ⟩:=hJ
            dsimp only at hj hm4 hJ ⊢
            by_cases hlj:j < f.blocks.length
            · obtain ⟨b,hb⟩:∃ b,f.blocks[j]?=some b:=⟨_,List.getElem?_eq_getElem hlj⟩
              obtain ⟨bb,bo,bcs,be,rfl,hB,hBl,hBv⟩:=hFbl.get j b hb
              have hBn:=hd _ _ hB
              obtain ⟨A',c',hBv,hBi⟩:=hBv
              have hbm:=hfm.blocks b (List.mem_of_getElem? hb)
              have hni:=hbm.n
              rw [drop_get hb] at hJ
              repeat' (first|((with_reducible apply RS.indexAddrS);(iterate 5 exact rfl);omega)|((with_reducible apply RS.loadNB);(iterate 3 exact rfl);exact hB;exact hBn;exact hBl;exact hBv)|((with_reducible first|apply RS.move|apply RS.assign|apply RS.lenSl|apply RS.fieldAddr);iterate 3 exact rfl)|((with_reducible apply RS.cmpT);(iterate 4 exact rfl);(simp only [cmpP];omega))|((with_reducible apply RS.cmpC);iterate 5 exact rfl)|((with_reducible apply RS.addNat);(iterate 4 exact rfl);omega)|((with_reducible apply RS.load1);iterate 6 exact rfl)|((with_reducible apply RS.store);(iterate 5 exact rfl);exact Nat.le_of_ble_eq_true rfl;iterate 3 exact rfl)|((with_reducible apply RS.alloc);iterate 2 exact rfl)|((with_reducible apply RS.nil);exact mixed;kernel_rfl)|(with_reducible first|apply W.seq|apply W.block|apply W.ret|apply W.skip|apply thenK_n|apply thenK_r|apply blockK_r|apply roundK_r)|((with_reducible apply W.reg);kernel_rfl)|((with_reducible apply W.condT);kernel_rfl;exact rfl)|(((with_reducible apply RS.splitD);iterate 2 exact rfl)<;>intro _)|((((with_reducible apply RS.splitG);iterate 2 exact rfl)<;>intro _)<;>(fail_if_success cases ‹true=false›)<;>(fail_if_success cases ‹false=true›))|(((with_reducible apply W.condD);exact rfl)<;>intro _)|((((with_reducible apply W.cond);exact rfl)<;>intro _)<;>(fail_if_success cases ‹true=false›)<;>(fail_if_success cases ‹false=true›)))
              · refine endsK_ret _ (.cons (.tmp rfl) .nil) ⟨rfl,?_⟩
                rw [show lightP p=false by rw [hJ];show (Option.bind (if _ then _ else _:Option Nat) _).isSome=_;rw [if_neg (fun hh=>by omega)];rfl];rfl
              · rename_i w4
                have hm2:m+b.ins.length≤2000:=by omega
                have hky:lightP p=(((lightI b.ins (m+b.ins.length)).bind (lightB (f.blocks.drop (j+1)))).bind (lightF (p.funcs.drop (i+1)))).isSome:=by rw [hJ];show (Option.bind (if _ then _ else _:Option Nat) _).isSome=_;rw [if_pos hm2]
                refine W.loop (X:=Nat × Nat) (fun π y=>[(1,.pointer (some ⟨π 0,0,none⟩)),(3,.int .i64 y.2),(71,.slice (some ⟨fb,fo,none⟩) p.funcs.length d1),(72,.int .i64 p.funcs.length),(73,.int .i64 i),(9,.pointer (some ⟨π 1,0,none⟩)),(120,.slice (some ⟨bb,bo,none⟩) f.blocks.length c3),(121,.int .i64 f.blocks.length),(122,.int .i64 j),(13,.pointer (some ⟨π 2,0,none⟩)),(134,.slice A' b.ins.length c'),(135,.int .i64 b.ins.length),(136,.int .i64 y.1)]) (fun _=>h) (fun π i=>[(2,some ⟨⟨blockC b A' c'⟩,50⟩),(1,some ⟨⟨funcC f F1 c1 F2 c2 (some ⟨bb,bo,none⟩) c3⟩,37⟩),(0,some ⟨⟨progC p (some ⟨fb,fo,none⟩) d1 P2 d2⟩,25⟩)]) (fun y=>y.1≤b.ins.length∧y.2≤4000∧lightP p=(((lightI (b.ins.drop y.1) y.2).bind (lightB (f.blocks.drop (j+1)))).bind (lightF (p.funcs.drop (i+1)))).isSome) (fun y=>b.ins.length - y.1) [0,1,2] (0,m+b.ins.length) ⟨Nat.zero_le _,by omega,hky⟩ (by (refine FitL.mk ?_ ?_ ?_ ?_<;>(repeat' (first|exact trivial|exact rfl|apply And.intro));done)) ?_
                clear hJ w4 hm2 hky hm4
                intro π y hK
                obtain ⟨k,m⟩:=y
                obtain ⟨hk,hm4,hK⟩:=hK
                dsimp only at hk hm4 hK ⊢
                by_cases hlk:k < b.ins.length
                · obtain ⟨x,hx⟩:∃ x,b.ins[k]?=some x:=⟨_,List.getElem?_eq_getElem hlk⟩
                  obtain ⟨xb,xo,xcs,xe,rfl,hX,hXl,hXv⟩:=hBi.get k x hx
                  have hXn:=hd _ _ hX
                  obtain ⟨A'',c'',hXv,hXs⟩:=hXv
                  have hxn:=(hbm.ins x (List.mem_of_getElem? hx)).n
                  rw [drop_get hx] at hK
                  repeat' (first|((with_reducible apply RS.indexAddrS);(iterate 5 exact rfl);omega)|((with_reducible apply RS.loadNB);(iterate 3 exact rfl);exact hX;exact hXn;exact hXl;exact hXv)|((with_reducible first|apply RS.move|apply RS.assign|apply RS.lenSl|apply RS.fieldAddr);iterate 3 exact rfl)|((with_reducible apply RS.pickT);iterate 4 exact rfl)|((with_reducible apply RS.pickF);iterate 4 exact rfl)|((with_reducible apply RS.cmpT);(iterate 4 exact rfl);(simp only [cmpP];omega))|((with_reducible apply RS.cmpC);iterate 5 exact rfl)|((with_reducible apply RS.add1);(iterate 4 exact rfl);omega)|((with_reducible apply RS.addNat);(iterate 4 exact rfl);omega)|((with_reducible apply RS.load1);iterate 6 exact rfl)|((with_reducible apply RS.store);(iterate 5 exact rfl);exact Nat.le_of_ble_eq_true rfl;iterate 3 exact rfl)|((with_reducible apply RS.alloc);iterate 2 exact rfl)|((with_reducible apply RS.skip);iterate 2 exact rfl)|((with_reducible apply RS.nil);exact mixed;kernel_rfl)|(with_reducible first|apply W.seq|apply W.block|apply W.ret|apply W.skip|apply thenK_n|apply thenK_r|apply blockK_n|apply blockK_r|apply roundK_r)|((with_reducible apply W.reg);kernel_rfl)|((with_reducible apply W.condT);kernel_rfl;exact rfl)|(((with_reducible apply RS.splitD);iterate 2 exact rfl)<;>intro _)|((((with_reducible apply RS.splitG);iterate 2 exact rfl)<;>intro _)<;>(fail_if_success cases ‹true=false›)<;>(fail_if_success cases ‹false=true›))|(((with_reducible apply W.condD);exact rfl)<;>intro _)|((((with_reducible apply W.cond);exact rfl)<;>intro _)<;>(fail_if_success cases ‹true=false›)<;>(fail_if_success cases ‹false=true›)))
                  rotate_left 3
                  · exact roundK_n (k+1,m+x.args.length) [0,1,2] rfl rfl ⟨by omega,by dsimp only;omega,hK.trans (by show (Option.bind (Option.bind (if _ then _ else _:Option Nat) _) _).isSome=_;rw [if_pos ⟨by omega,by omega,by omega⟩])⟩ (by omega) (by (refine FitL.mk ?_ ?_ ?_ ?_<;>(repeat' (first|exact trivial|exact rfl|apply And.intro));done))
                  all_goals refine endsK_ret _ (.cons (.tmp rfl) .nil) ⟨rfl,?_⟩
                  all_goals rw [show lightP p=false by rw [hK];show (Option.bind (Option.bind (if _ then _ else _:Option Nat) _) _).isSome=_;rw [if_neg (fun hh=>by omega)];rfl];rfl
                · repeat (first|((with_reducible apply RS.move);iterate 3 exact rfl)|((with_reducible apply RS.cmpF);(iterate 4 exact rfl);(simp only [cmpN];omega))|((with_reducible apply RS.add1);(iterate 4 exact rfl);omega)|((with_reducible apply RS.nil);exact mixed;kernel_rfl)|(with_reducible first|apply W.seq|apply W.exit|apply thenK_n|apply thenK_e|apply blockK_n|apply roundK_e)|((with_reducible apply W.reg);kernel_rfl)|((with_reducible apply W.condF);kernel_rfl;exact rfl)|((with_reducible apply blockK_hit);exact rfl))
                  rw [List.drop_eq_nil_of_le (by omega)] at hK
                  exact roundK_n (j+1,m) [0,1] rfl rfl ⟨by omega,hm4,hK⟩ (by omega) (by (refine FitL.mk ?_ ?_ ?_ ?_<;>(repeat' (first|exact trivial|exact rfl|apply And.intro));done))
            · repeat (first|((with_reducible apply RS.move);iterate 3 exact rfl)|((with_reducible apply RS.cmpF);(iterate 4 exact rfl);(simp only [cmpN];omega))|((with_reducible apply RS.add1);(iterate 4 exact rfl);omega)|((with_reducible apply RS.nil);exact mixed;kernel_rfl)|(with_reducible first|apply W.seq|apply W.exit|apply thenK_n|apply thenK_e|apply blockK_n|apply roundK_e)|((with_reducible apply W.reg);kernel_rfl)|((with_reducible apply W.condF);kernel_rfl;exact rfl)|((with_reducible apply blockK_hit);exact rfl))
              rw [List.drop_eq_nil_of_le (by omega)] at hJ
              exact roundK_n (i+1,m) [0] rfl rfl ⟨by omega,hm4,hJ⟩ (by omega) (by (refine FitL.mk ?_ ?_ ?_ ?_<;>(repeat' (first|exact trivial|exact rfl|apply And.intro));done))
        · refine endsK_ret _ (.cons (.tmp rfl) .nil) ⟨rfl,?_⟩
          rw [show lightP p=false by rw [hI];show (if _ then _ else _:Option Nat).isSome=_;rw [if_neg (fun hh=>by omega)];rfl];rfl
        · refine endsK_ret _ (.cons (.tmp rfl) .nil) ⟨rfl,?_⟩
          rw [show lightP p=false by rw [hI];show (if _ then _ else _:Option Nat).isSome=_;rw [if_neg (fun hh=>by omega)];rfl];rfl
        · refine endsK_ret _ (.cons (.tmp rfl) .nil) ⟨rfl,?_⟩
          rw [show lightP p=false by rw [hI];show (if _ then _ else _:Option Nat).isSome=_;rw [if_neg (fun hh=>by omega)];rfl];rfl
      · repeat (first|((with_reducible apply RS.assign);iterate 3 exact rfl)|((with_reducible apply RS.cmpF);(iterate 4 exact rfl);(simp only [cmpN];omega))|((with_reducible apply RS.nil);exact mixed;kernel_rfl)|(with_reducible first|apply W.seq|apply W.exit|apply W.ret|apply thenK_n|apply thenK_e|apply roundK_e)|((with_reducible apply W.reg);kernel_rfl)|((with_reducible apply W.condF);kernel_rfl;exact rfl)|((with_reducible apply blockK_hit);exact rfl))
        rw [List.drop_eq_nil_of_le (by omega)] at hI
        exact endsK_ret _ (.cons (.tmp rfl) .nil) ⟨rfl,by rw [hI];rfl⟩
  all_goals refine endsK_ret _ (.cons (.tmp rfl) .nil) ⟨rfl,?_⟩
  · rw [show lightP p=false by unfold lightP;simp;omega];rfl
  · rw [show lightP p=false by unfold lightP;simp;omega];rfl
  · rw [show lightP p=false by unfold lightP;simp;omega];rfl
  · rw [show lightP p=false by unfold lightP;simp;omega];rfl
end Go.Proofs.YtjhloakacicdiaaDoor
namespace Go.Proofs.YtjhloakacicdiaaDoor
open Go.AH
attribute [local irreducible] W RS
theorem lightI_le:∀ {l:List InsS} {n m:Nat},lightI l n=some m→n≤4000→n≤m∧m≤4000∧∀ x∈l,x.args.length≤4000:=by
  intro l
  induction l with
  | nil =>
    intro n m h hn
    simp only [lightI,Option.some.injEq] at h
    subst h
    exact ⟨Nat.le_refl _,hn,fun x hx=>by cases hx⟩
  | cons a l ih =>
    intro n m h hn
    rw [lightI] at h
    split at h
    · rename_i hc
      obtain ⟨h1,h2,h3⟩:=ih h (by omega)
      refine ⟨by omega,h2,fun x hx=>?_⟩
      rcases List.mem_cons.1 hx with rfl|hx
      · omega
      · exact h3 x hx
    · cases h
theorem lightB_le:∀ {l:List BlockS} {n m:Nat},lightB l n=some m→n≤4000→n+sizeS l≤m∧m≤4000∧∀ b∈l,∀ x∈b.ins,x.args.length≤4000:=by
  intro l
  induction l with
  | nil =>
    intro n m h hn
    simp only [lightB,Option.some.injEq] at h
    subst h
    exact ⟨Nat.le_refl _,hn,fun x hx=>by cases hx⟩
  | cons a l ih =>
    intro n m h hn
    rw [lightB] at h
    split at h
    · rename_i hc
      obtain ⟨k,h1,h2⟩:=Option.bind_eq_some_iff.1 h
      obtain ⟨i1,i2,i3⟩:=lightI_le h1 (by omega)
      obtain ⟨j1,j2,j3⟩:=ih h2 i2
      have e:sizeS (a::l)=a.ins.length+sizeS l:=by simp [sizeS]
      refine ⟨by omega,j2,fun b hb=>?_⟩
      rcases List.mem_cons.1 hb with rfl|hb
      · exact i3
      · exact j3 b hb
    · cases h
theorem lightF_le:∀ {l:List FuncS} {n m:Nat},lightF l n=some m→∀ f∈l,(0≤f.regs∧f.regs≤300)∧f.slots.length≤2000∧f.blocks.length≤2000∧sizeS f.blocks≤4000∧∀ b∈f.blocks,∀ x∈b.ins,x.args.length≤4000:=by
  intro l
  induction l with
  | nil=>intro n m _ f hf;cases hf
  | cons a l ih =>
    intro n m h f hf
    rw [lightF] at h
    split at h
    · rename_i hc
      obtain ⟨k,h1,h2⟩:=Option.bind_eq_some_iff.1 h
      rcases List.mem_cons.1 hf with rfl|hf
      · obtain ⟨j1,j2,j3⟩:=lightB_le h1 (by omega)
        exact ⟨⟨hc.2.1,hc.2.2.1⟩,by omega,by omega,by omega,j3⟩
      · exact ih h2 f hf
    · cases h
theorem tgt_of {f:FuncS} {b:BlockS} (h:endsS f b.term=true):∀ k∈nextS b.term,0≤k∧k < f.blocks.length:=by
  unfold endsS at h
  simp only [Bool.and_eq_true] at h
  intro k hk
  have:=List.all_eq_true.1 h.2 k hk
  simpa using this
structure LightF (p:ProgS) (f:FuncS):Prop where
  ok:OkL f.regs f.blocks
  cp:CopyOK f
theorem reads_fit {x:InsS} (h:x.ok):∀ a∈readsS x,fitI a.reg:=by
  intro a ha
  unfold readsS at ha
  have key:a=x.a∨a=x.b∨a∈x.args:=by
    repeat' split at ha
    all_goals try simp only [List.mem_cons,List.not_mem_nil,or_false] at ha
    all_goals first
      | exact .inr (.inr ha)
      | (rcases ha with ha | ha
         · exact .inl ha
         · first|exact .inr (.inr ha)|exact .inr (.inl ha))
      | exact ha.elim
      | exact .inl ha
  rcases key with rfl|rfl|h1
  · exact h.a.1
  · exact h.b.1
  · exact (h.args a h1).1
theorem treads_fit {t:TermS} (h:t.ok):∀ a∈treadsS t,fitI a.reg:=by
  intro a ha
  unfold treadsS at ha
  repeat' split at ha
  all_goals simp only [List.mem_cons,List.not_mem_nil,or_false] at ha
  · rcases ha with rfl|rfl
    · exact h.a.1
    · exact h.b.1
  · subst ha;exact h.a.1
theorem light_right {p:ProgS} (hok:p.ok) (hl:lightP p=true) (hr:rightP p=true):∀ f∈p.funcs,LightF p f:=by
  intro f hf
  unfold lightP at hl
  simp only [Bool.and_eq_true,decide_eq_true_eq] at hl
  obtain ⟨_,h6⟩:=hl
  obtain ⟨m,hm⟩:=Option.isSome_iff_exists.1 h6
  obtain ⟨⟨l1,l2⟩,l3,l4,l5,l6⟩:=lightF_le hm f hf
  unfold rightP at hr
  simp only [Bool.and_eq_true,decide_eq_true_eq] at hr
  have hrf:=List.all_eq_true.1 hr.2 f hf
  unfold funcOK at hrf
  simp only [Bool.and_eq_true,decide_eq_true_eq] at hrf
  obtain ⟨⟨⟨⟨⟨r1,r2⟩,r3⟩,r4⟩,r5⟩,r6⟩:=hrf
  have hfo:=hok.funcs f hf
  have htg:tgtOK f.blocks:=by
    intro b hb
    have:=List.all_eq_true.1 r6 b hb
    unfold blockOK at this
    simp only [Bool.and_eq_true] at this
    exact tgt_of this.2
  refine ⟨⟨r5,by omega,l1,by omega,htg,by omega,fun b hb x hx=>?_,fun b hb=>treads_fit ((hfo.blocks b hb).term)⟩,⟨r5,by omega,by omega,by omega,fun b hb=>?_,fun b hb x hx=>?_⟩⟩
  · have h1:=l6 b hb x hx
    have h2:=(hfo.blocks b hb).ins x hx
    exact ⟨by omega,h2.dst,reads_fit h2⟩
  · have:=sizeS_le hb
    omega
  · have h1:=l6 b hb x hx
    omega
def DeadR (f f':FuncS):Prop:=∃ bm,CodeS f.regs f.blocks bm∧f'={ f with blocks:=waysS bm }
theorem func_turn:TurnEX 11 (fun f=>OkL f.regs f.blocks) DeadR:=by
  intro B N bb bv f A1 c1 A2 c2 sec hok hsec hN hbb hm hod hsl hr1 hr2
  obtain ⟨nm,pa,se,rg,sl,bl⟩:=f
  have hsl:sL bv=bl:=hsl
  subst hsl
  have hown:=hod.own hN (Nat.le_trans hN hbb) hm
  refine (func_ex B bb bv ⟨nm,pa,se,rg,sl,sL bv⟩ A1 c1 A2 c2 (capOf 9) hown hok).mono ?_
  rintro v h' s ⟨lb,kv,bm,rfl,hown',hcode,hkv,hoff,hfoot⟩
  have keep:∀ {e:TypeId},e≠50→∀ i b,B.m i=some b→b.elem=e→h'.m i=some b:=by
    intro e he i b hb hbe
    rw [hoff.2 i (s.dom _ _ hb) (ne_of_elem hb hm (by rw [hbe];exact he))]
    exact hb
  have row:∀ {α:Type} {e:TypeId} {A:Option Addr} {l:List α} {enc:α→Value},e≠50→e≠37→e≠25→RowE B N e A l enc→RowE (cutE h') N e A l enc:=by
    intro α e A l enc h1 h2 h3 hr
    exact hr.up fun i b hb hbe=>cutE_in (keep h1 i b hb hbe) (by rw [hbe];exact h2) (by rw [hbe];exact h3)
  refine ⟨_,_,rfl,⟨A1,c1,A2,c2,some ⟨lb,0,none⟩,capOf 9,sec,rfl,hsec,(row (by decide) (by decide) (by decide) hr1).sl fun _=>rfl,(row (by decide) (by decide) (by decide) hr2).sl fun _=>rfl,?_⟩,⟨bm,hcode,rfl⟩,hoff.mono fun i _ e=>by rw [e];exact hbb⟩
  have:=hown'.cut.sl
  rw [hkv] at this
  exact this
theorem prog_ex (p:ProgS) (hK:∀ f∈p.funcs,OkL f.regs f.blocks∧CopyOK f) (hn:p.funcs.length≤100000) (h:Hp) (pb:Nat) (e:TypeId) (A1:Option Addr) (c1:Nat) (A2:Option Addr) (c2:Nat) (hP:h.m pb=some ⟨⟨progC p A1 c1 A2 c2⟩,e⟩) (hs:SlAt h A1 6 p.funcs (funcRS h)) :
    EX Tryd.prog 10 [.pointer (some ⟨pb,0,none⟩)] h (fun v h'=>∃ ob A c fs,v=.pointer (some ⟨ob,0,none⟩)∧h'.m ob=some ⟨⟨progC { p with funcs:=fs } A c A2 c2⟩,25⟩∧SlAt h' A 6 fs (funcRS h')∧fs.length=p.funcs.length∧(∀ (i:Nat) (f f':FuncS),p.funcs[i]?=some f→fs[i]?=some f'→DeadR f f')∧Old h h'∧h.n≤ob):=by
  refine EX.intro (fn:=Tryd.f10) (c:=(Tryd.f10.body.getD .skip)) Tryd.func10 (by kernel_rfl) Tryd.ntmps10 (by kernel_rfl) fun π s0=>?_
  conv=>arg 2;whnf
  repeat (first|((with_reducible apply RS.callEx);(iterate 3 exact rfl);intro B1 hB1;refine ⟨_,each_ex 11 _ _ func_turn p hK hn B1 pb e A1 c1 A2 c2 (hB1.up _ _ hP) (hs.mono hB1.up fun _ _ h=>funcRS_mono hB1.up h),?_⟩;rintro v H2 π2 ⟨ob,A,c,fs,rfl,hO,hS,hl,hR,ho,hlo⟩ sH2 hle2)|((with_reducible first|apply RS.move|apply RS.assign);iterate 3 exact rfl)|((with_reducible apply RS.nil);exact mixed;kernel_rfl)|(with_reducible first|apply W.seq|apply W.ret|apply thenK_n)|((with_reducible apply W.reg);kernel_rfl))
  exact endsK_ret _ (.cons (.tmp rfl) .nil) fun B' a=>⟨ob,A,c,fs,rfl,a.up _ _ hO,hS.mono a.up fun _ _ h=>funcRS_mono a.up h,hl,hR,(hB1.oldH.trans ho).trans a.oldH,Nat.le_trans hB1.le hlo⟩
end Go.Proofs.YtjhloakacicdiaaDoor
namespace Go.AH
variable {P:Program}
section
variable {ops:Array Oper} {draw:Bool} {rs:List Rk} {l:List Oper} {fl:List (Nat × Value)} {nt:Nat} {h:SH} {K:Fr→SH→Prop} {d:Tmp} {ty:TypeId} {pos:String} {af:Array Edge} {gd:Option (Nat × Bool)}
theorem RS.nePtrNil {t e yt:TypeId} {x y:Operand} {A:Option Addr} [hu:TyU P t (.pointer e)] (hw:wantB ops ⟨some d,.binOp .neq t x y yt,ty,pos,af,gd⟩ ⟨fl,nt⟩=some true) (hd:Nat.blt d nt=true)
    (hx:Fr.ev ⟨fl,nt⟩ x=some (.pointer A)) (hy:Fr.ev ⟨fl,nt⟩ y=some (.pointer none))
    (hk:RS P ops draw (recP h.k false [] (some [])::rs) l ⟨(d,.bool (!A.isNone))::fl,nt⟩ h K):RS P ops draw rs (⟨some d,.binOp .neq t x y yt,ty,pos,af,gd⟩::l) ⟨fl,nt⟩ h K :=
  RS.free hw hd (fun a g H=>by
    have:=TX.eqPtrNil (P:=P) (o:=⟨some d,.binOp .neq t x y yt,ty,pos,af,gd⟩) (ev:=a.eval) (h:=H) (op:=.neq) rfl rfl hu.eq (g.ev hx) (g.ev hy)
    simpa using this) (by simp) hk
end
end Go.AH
namespace Go.Proofs.YtjhloakacicdiaaDoor
open Go.AH
attribute [local irreducible] W RS
theorem R_tf (n:Int) (h:Hp):TF Tryd.prog 27 ⟨[.int .i64 n]⟩ h (.agg ⟨[.int .i64 n,.int .i64 0]⟩) h:=by
  refine TF.still (fn:=Tryd.f27) (c:=(Tryd.f27.body.getD .skip)) Tryd.func27 (by kernel_rfl) Tryd.ntmps27 (by kernel_rfl) (by simp) ?_
  conv=>arg 2;whnf
  repeat (first|((with_reducible apply RS.move);iterate 3 exact rfl)|((with_reducible apply RS.store);(iterate 5 exact rfl);exact Nat.le_of_ble_eq_true rfl;iterate 3 exact rfl)|((with_reducible apply RS.alloc);iterate 2 exact rfl)|((with_reducible apply RS.build);iterate 4 exact rfl)|((with_reducible apply RS.nil);exact mixed;kernel_rfl)|(with_reducible first|apply W.seq|apply W.ret|apply thenK_n)|((with_reducible apply W.reg);kernel_rfl))
  exact endsK_ret _ (.cons (.cellN rfl rfl rfl (Nat.le_of_ble_eq_true rfl)) .nil) ⟨rfl,rfl⟩
def fitT:TermS:=⟨3,0,⟨0,0⟩,⟨0,0⟩,0,0⟩
def fitB:List BlockS:=[⟨[⟨1,1,⟨-1,5⟩,⟨0,0⟩,0,false,false,0,0,[]⟩],fitT⟩]
def fitB1:List BlockS:=[⟨[],fitT⟩]
def fitF:FuncS:=⟨⟨#[109,97,105,110]⟩,0,0,2,[],fitB⟩
def fit14:ProgS:=⟨[fitF],[],0,0⟩
theorem once_det {regs:Int} {bl bl':List BlockS} {st:LiveS} (hl:LiveRun bl (live0 bl regs) st) (ho:OnceS regs bl bl'):bl'=onceL bl st.outs:=by
  cases ho with
  | mk h=>rw [h.det hl]
theorem fit_run:LiveRun fitB (live0 fitB 2) (liveRound fitB (liveRound fitB (live0 fitB 2))) :=
  .go (by kernel_rfl) (.stop (by kernel_rfl))
theorem fit_run1:LiveRun fitB1 (live0 fitB1 2) (liveRound fitB1 (liveRound fitB1 (live0 fitB1 2))) :=
  .go (by kernel_rfl) (.stop (by kernel_rfl))
theorem fit_once {bl:List BlockS} (h:OnceS 2 fitB bl):bl=fitB1:=by
  rw [once_det fit_run h];kernel_rfl
theorem fit_once1 {bl:List BlockS} (h:OnceS 2 fitB1 bl):bl=fitB1:=by
  rw [once_det fit_run1 h];kernel_rfl
theorem fit_code1 {bl:List BlockS}:CodeS 2 fitB1 bl→bl=fitB1:=by
  intro h
  cases h with
  | stop h he=>exact fit_once1 h
  | go h hn _ =>
    have:=fit_once1 h
    subst this
    exact absurd rfl hn
theorem fit_code {bl:List BlockS} (h:CodeS 2 fitB bl):bl=fitB1:=by
  cases h with
  | stop h he=>exact fit_once h
  | go h hn hr =>
    have:=fit_once h
    subst this
    exact fit_code1 hr
theorem fit_dead {f':FuncS} (h:DeadR fitF f'):f'.blocks=fitB1:=by
  obtain ⟨bm,hc,rfl⟩:=h
  show waysS bm=fitB1
  rw [fit_code hc];kernel_rfl
theorem slat_one {α:Type} {h:Hp} {b w:Nat} {cs:List Value} {e:TypeId} {x:α} {R:List Value→α→Prop} (hm:h.m b=some ⟨⟨cs⟩,e⟩) (hl:w≤cs.length) (hR:R (takeV 0 w cs) x):SlAt h (some ⟨b,0,none⟩) w [x] R:=by
  refine ⟨fun i y hy=>?_⟩
  cases i with
  | zero=>simp at hy;subst hy;exact ⟨b,0,cs,e,rfl,hm,by omega,by simpa using hR⟩
  | succ i=>simp at hy
theorem fit_ok:OkL fitF.regs fitF.blocks∧CopyOK fitF:=by
  refine ⟨⟨by decide,by decide,by decide,by decide,?_,by decide,?_,?_⟩,⟨by decide,by decide,by decide,by decide,?_,?_⟩⟩
  · intro b hb k hk
    simp only [fitF,fitB,List.mem_singleton] at hb
    subst hb
    simp [nextS,fitT] at hk
  · intro b hb x hx
    simp only [fitF,fitB,List.mem_singleton] at hb
    subst hb
    simp only [List.mem_singleton] at hx
    subst hx
    refine ⟨by decide,⟨by decide,by decide⟩,fun a ha=>?_⟩
    have ha:a∈[(⟨-1,5⟩:ArgS)]:=ha
    simp only [List.mem_singleton] at ha
    subst ha
    exact ⟨by decide,by decide⟩
  · intro b hb a ha
    simp only [fitF,fitB,List.mem_singleton] at hb
    subst hb
    have ha:a∈[(⟨0,0⟩:ArgS)]:=ha
    simp only [List.mem_singleton] at ha
    subst ha
    exact ⟨by decide,by decide⟩
  · intro b hb
    simp only [fitF,fitB,List.mem_singleton] at hb
    subst hb
    decide
  · intro b hb x hx
    simp only [fitF,fitB,List.mem_singleton] at hb
    subst hb
    simp only [List.mem_singleton] at hx
    subst hx
    decide
set_option maxRecDepth 100000 in
theorem fit14_tf (h:Hp):TF Tryd.prog 8 ⟨[]⟩ h (.bool true) h:=by
  refine TF.exact (fn:=Tryd.f8) (c:=(Tryd.f8.body.getD .skip)) Tryd.func8 (by kernel_rfl) Tryd.ntmps8 (by kernel_rfl) (fun s0=>⟨Nat.le_refl _,by simp,fun i b hb=>⟨s0.dom i b hb,s0.bd i b hb⟩⟩) fun π s0=>?_
  conv=>arg 2;whnf
  ((with_reducible apply W.seq);repeat (first|((with_reducible apply RS.assign);iterate 3 exact rfl)|((with_reducible apply RS.nil);exact mixed;kernel_rfl)|((with_reducible apply W.reg);kernel_rfl)|(with_reducible apply thenK_n)))
  ((with_reducible apply W.seq);repeat (first|((with_reducible apply RS.callB);(iterate 3 exact rfl);first|exact fun H hH=>(numN_tf _ H);exact Nm_free (by simp)|exact fun H hH=>(R_tf _ H);exact Nm_free (by simp))|((with_reducible apply RS.buildSlice);iterate 8 exact rfl)|((with_reducible apply RS.store);(iterate 5 exact rfl);exact Nat.le_of_ble_eq_true rfl;iterate 3 exact rfl)|((with_reducible apply RS.alloc);iterate 2 exact rfl)|((with_reducible apply RS.build);iterate 4 exact rfl)|((with_reducible apply RS.nil);exact mixed;kernel_rfl)|((with_reducible apply W.reg);kernel_rfl)|(with_reducible apply thenK_n)))
  refine W.absorbX fun B0 π0 a0=>?_
  have m0:B0.m (π 0)=some ⟨⟨insC ⟨1,1,⟨-1,5⟩,⟨0,0⟩,0,false,false,0,0,[]⟩ none 0⟩,58⟩:=a0.loc 0 (by decide:(0:Nat) < 4)
  have m1:B0.m (π 1)=some ⟨⟨[.slice (some ⟨π 0,0,none⟩) 1 1,.int .i64 3,.int .i64 0,.int .i64 0,.int .i64 0,.int .i64 0,.int .i64 0,.int .i64 0,.int .i64 0]⟩,50⟩:=a0.loc 1 (by decide:(1:Nat) < 4)
  have m2:B0.m (π 2)=some ⟨⟨[.string ⟨#[109,97,105,110]⟩,.int .i64 0,.slice none 0 0,.int .i64 2,.slice none 0 0,.slice (some ⟨π 1,0,none⟩) 1 1]⟩,37⟩:=a0.loc 2 (by decide:(2:Nat) < 4)
  have m3:B0.m (π 3)=some ⟨⟨progC fit14 (some ⟨π 2,0,none⟩) 1 none 0⟩,25⟩:=a0.loc 3 (by decide:(3:Nat) < 4)
  have hs:SlAt B0 (some ⟨π 2,0,none⟩) 6 fit14.funcs (funcRS B0):=by
    refine slat_one m2 (Nat.le_refl _) ⟨none,0,none,0,some ⟨π 1,0,none⟩,1,[],rfl,rfl,SlAt.nil,SlAt.nil,?_⟩
    refine slat_one m1 (Nat.le_refl _) ⟨some ⟨π 0,0,none⟩,1,rfl,?_⟩
    exact slat_one m0 (Nat.le_refl _) ⟨none,0,rfl,SlAt.nil⟩
  have hK:∀ f∈fit14.funcs,OkL f.regs f.blocks∧CopyOK f:=by
    intro f hf
    simp only [fit14,List.mem_singleton] at hf
    subst hf
    exact fit_ok
  ((with_reducible apply W.seq);repeat (first|((with_reducible apply RS.callEx);(iterate 3 exact rfl);intro B1 hB1;refine ⟨_,prog_ex fit14 hK (by decide) B1 (π 3) 25 _ _ _ _ (hB1.up _ _ m3) (hs.mono hB1.up fun _ _ h=>funcRS_mono hB1.up h),?_⟩;rintro v H2 π2 ⟨ob,A,c,fs,rfl,hO,hS,hl,hR,ho,hlo⟩ sH2 hle2)|((with_reducible apply RS.assign);iterate 3 exact rfl)|((with_reducible apply RS.nil);exact mixed;kernel_rfl)|((with_reducible apply W.reg);kernel_rfl)|(with_reducible apply thenK_n)))
  have hl:fs.length=1:=hl
  obtain ⟨f',hf'⟩:∃ f',fs[0]?=some f':=⟨_,List.getElem?_eq_getElem (by omega)⟩
  have hbl:=fit_dead (hR 0 fitF f' rfl hf')
  obtain ⟨gb,go,gcs,ge,rfl,hG,hGl,G1,g1,G2,g2,G3,g3,sec,hGv,_,_,_,hGB⟩:=hS.get 0 f' hf'
  have hG5:gcs[go+0 * 6+5]?=some (.slice G3 1 g3):=take_nth hGv (j:=5) (by unfold funcC;rw [hbl];rfl)
  rw [hbl] at hGB
  obtain ⟨bb,bo,bcs,be,rfl,hB,hBl,Q1,q1,hBv,_⟩:=hGB.get 0 ⟨[],fitT⟩ rfl
  have hB0:bcs[bo+0 * 9+0]?=some (.slice Q1 0 q1):=take_nth hBv (j:=0) rfl
  have hGn:=sH2.dom _ _ hG
  have hBn:=sH2.dom _ _ hB
  have hOn:=sH2.dom _ _ hO
  have hO0:(progC { fit14 with funcs:=fs } (some ⟨gb,go,none⟩) c none 0)[0+0]?=some (.slice (some ⟨gb,go,none⟩) 1 c):=by unfold progC;rw [← hl];rfl
  repeat (first|((with_reducible apply RS.nePtrNil);iterate 4 exact rfl)|((with_reducible apply RS.load1B);(iterate 3 exact rfl);first|exact hO;exact hOn;exact hO0|exact hG;exact hGn;exact hG5|exact hB;exact hBn;exact hB0)|((with_reducible apply (RS.indexAddrS (n:=0)));(iterate 5 exact rfl);exact Nat.succ_pos _)|((with_reducible first|apply RS.nilCheck|apply RS.move|apply RS.assign|apply RS.lenSl|apply RS.fieldAddr);iterate 3 exact rfl)|((with_reducible apply RS.pickT);iterate 4 exact rfl)|((with_reducible apply RS.cmpT);(iterate 4 exact rfl);(simp only [cmpP];omega))|((with_reducible apply RS.nil);exact mixed;kernel_rfl)|(with_reducible first|apply W.seq|apply W.ret|apply thenK_n)|((with_reducible apply W.reg);kernel_rfl))
  exact endsK_ret _ (.cons (.tmp rfl) .nil) fun B' a=>⟨rfl,fun j x hj=>a.up _ _ ((hB1.oldH.trans ho).up a0.dom _ _ (a0.up _ _ hj))⟩
end Go.Proofs.YtjhloakacicdiaaDoor
namespace Go.Proofs.YtjhloakacicdiaaDoor
open Go.AH
attribute [local irreducible] W RS
set_option maxRecDepth 100000 in
theorem Short_tf (A1:Option Addr) (n1 c1:Nat) (A2:Option Addr) (n2 c2:Nat) (h:Hp):TF Tryd.prog 38 ⟨[.agg ⟨[.slice A1 n1 c1,.slice A2 n2 c2]⟩]⟩ h (.bool (decide (n1 < 3000) && decide (n2 < 3000))) h:=by
  refine TF.dom fun hd=>?_
  refine TF.still (fn:=Tryd.f38) (c:=(Tryd.f38.body.getD .skip)) Tryd.func38 (by kernel_rfl) Tryd.ntmps38 (by kernel_rfl) (by simp) ?_
  conv=>arg 2;whnf
  repeat' (first|((with_reducible first|apply RS.move|apply RS.assign|apply RS.lenSl|apply RS.fieldAddr|apply RS.box);iterate 3 exact rfl)|((with_reducible apply RS.pickT);iterate 4 exact rfl)|((with_reducible apply RS.pickF);iterate 4 exact rfl)|((with_reducible apply RS.cmpC);iterate 5 exact rfl)|((with_reducible apply RS.load1);iterate 6 exact rfl)|((with_reducible apply RS.skip);iterate 2 exact rfl)|((with_reducible apply RS.nil);exact mixed;kernel_rfl)|(with_reducible first|apply W.seq|apply W.ret|apply thenK_n)|((with_reducible apply W.reg);kernel_rfl)|(((with_reducible apply RS.splitD);iterate 2 exact rfl)<;>intro _)|((((with_reducible apply RS.splitG);iterate 2 exact rfl)<;>intro _)<;>(fail_if_success cases ‹true=false›)<;>(fail_if_success cases ‹false=true›))|(((with_reducible apply W.condD);exact rfl)<;>intro _)|((((with_reducible apply W.cond);exact rfl)<;>intro _)<;>(fail_if_success cases ‹true=false›)<;>(fail_if_success cases ‹false=true›)))
  · refine endsK_ret _ (.cons (.tmp rfl) .nil) ⟨rfl,?_⟩
    rw [decide_eq_true (by omega:n1 < 3000),Bool.true_and]
    show Value.bool (decide ((n2:Int) < 3000))=_
    congr 1;exact decide_eq_decide.2 (by omega)
  · refine endsK_ret _ (.cons (.tmp rfl) .nil) ⟨rfl,?_⟩
    rw [decide_eq_false (by omega:¬ n1 < 3000)];rfl
end Go.Proofs.YtjhloakacicdiaaDoor
namespace Go.Proofs.YtjhloakacicdiaaDoor
open Go.AH
attribute [local irreducible] W RS
theorem light_args {p:ProgS} (hl:lightP p=true):∀ f∈p.funcs,∀ b∈f.blocks,∀ x∈b.ins,x.args.length≤1000000000:=by
  intro f hf b hb x hx
  unfold lightP at hl
  simp only [Bool.and_eq_true,decide_eq_true_eq] at hl
  obtain ⟨_,h6⟩:=hl
  obtain ⟨m,hm⟩:=Option.isSome_iff_exists.1 h6
  obtain ⟨_,_,_,_,l6⟩:=lightF_le hm f hf
  have:=l6 b hb x hx
  omega
def shortN (n1 n2:Nat):Bool:=decide (n1 < 3000) && decide (n2 < 3000)
set_option maxRecDepth 100000 in
theorem small_tf (p:ProgS) (hok:p.ok) (h:Hp) (P1:Option Addr) (d1:Nat) (P2:Option Addr) (d2:Nat) (hfs:SlAt h P1 6 p.funcs (funcR h)) (hgs:SlAt h P2 4 p.globals (globR h)) (A1:Option Addr) (k1 c1:Nat) (A2:Option Addr) (k2 c2:Nat) (A3:Option Addr) (k3 c3:Nat) (A4:Option Addr) (k4 c4:Nat) :
    TF Tryd.prog 9 ⟨[.agg ⟨progC p P1 d1 P2 d2⟩,.agg ⟨[.slice A1 k1 c1,.slice A2 k2 c2]⟩,.agg ⟨[.slice A3 k3 c3,.slice A4 k4 c4]⟩]⟩ h (.bool (lightP p && rightP p && shortN k1 k2 && shortN k3 k4)) h:=by
  refine TF.exact (fn:=Tryd.f9) (c:=(Tryd.f9.body.getD .skip)) Tryd.func9 (by kernel_rfl) Tryd.ntmps9 (by kernel_rfl) (fun s0=>⟨Nat.le_refl _,by simp,fun i b hb=>⟨s0.dom i b hb,s0.bd i b hb⟩⟩) fun π s0=>?_
  conv=>arg 2;whnf
  ((with_reducible apply W.seq);repeat (first|((with_reducible first|apply RS.assign|apply RS.box);iterate 3 exact rfl)|((with_reducible apply RS.nil);exact mixed;kernel_rfl)|((with_reducible apply W.reg);kernel_rfl)|(with_reducible apply thenK_n)))
  refine W.absorbX fun B0 π0 a0=>?_
  have m0:B0.m (π 0)=some ⟨⟨progC p P1 d1 P2 d2⟩,25⟩:=a0.loc 0 (by decide:(0:Nat) < 3)
  have m1:B0.m (π 1)=some ⟨⟨[.slice A1 k1 c1,.slice A2 k2 c2]⟩,30⟩:=a0.loc 1 (by decide:(1:Nat) < 3)
  have m2:B0.m (π 2)=some ⟨⟨[.slice A3 k3 c3,.slice A4 k4 c4]⟩,30⟩:=a0.loc 2 (by decide:(2:Nat) < 3)
  have n0:=a0.dom _ _ m0
  have n1':=a0.dom _ _ m1
  have n2':=a0.dom _ _ m2
  replace hfs:=hfs.mono a0.up fun _ _ h=>funcR_mono a0.up h
  replace hgs:=hgs.mono a0.up fun _ _ h=>globR_mono a0.up h
  have hargs:=@light_args p
  obtain ⟨s1,hs1⟩:∃ s,(decide (k1 < 3000) && decide (k2 < 3000))=s:=⟨_,rfl⟩
  obtain ⟨s2,hs2⟩:∃ s,(decide (k3 < 3000) && decide (k4 < 3000))=s:=⟨_,rfl⟩
  unfold shortN
  rw [hs1,hs2]
  have hS1:∀ B',TF Tryd.prog 38 ⟨[.agg ⟨[.slice A1 k1 c1,.slice A2 k2 c2]⟩]⟩ B' (.bool s1) B':=by intro B';rw [← hs1];exact Short_tf A1 k1 c1 A2 k2 c2 B'
  have hS2:∀ B',TF Tryd.prog 38 ⟨[.agg ⟨[.slice A3 k3 c3,.slice A4 k4 c4]⟩]⟩ B' (.bool s2) B':=by intro B';rw [← hs2];exact Short_tf A3 k3 c3 A4 k4 c4 B'
  clear hs1 hs2
  generalize hlb:lightP p=lb at *
  cases lb with
  | false =>
    repeat (first|((with_reducible apply RS.loadNB);(iterate 3 exact rfl);exact m0;exact n0;exact Nat.le_of_ble_eq_true rfl;exact (show takeV 0 4 (progC p P1 d1 P2 d2)=progC p P1 d1 P2 d2 from rfl))|((with_reducible apply (RS.callA (g0:=36)));(iterate 3 exact rfl);exact fun B' hB'=>hlb ▸ Light_tf p hok B' P1 d1 P2 d2 (hfs.mono hB'.up fun _ _ h=>funcR_mono hB'.up h) (hgs.mono hB'.up fun _ _ h=>globR_mono hB'.up h))|((with_reducible first|apply RS.move|apply RS.assign);iterate 3 exact rfl)|((with_reducible apply RS.pickF);iterate 4 exact rfl)|((with_reducible apply RS.skip);iterate 2 exact rfl)|((with_reducible apply RS.nil);exact mixed;kernel_rfl)|(with_reducible first|apply W.seq|apply W.ret|apply thenK_n)|((with_reducible apply W.reg);kernel_rfl))
    exact endsK_ret _ (.cons (.tmp rfl) .nil) fun B' a=>⟨rfl,fun j x hj=>a.up _ _ (a0.up _ _ hj)⟩
  | true =>
    replace hargs:=hargs rfl
    generalize hrb:rightP p=rb at *
    cases rb with
    | false =>
      have hrv:(if rightP p=true then (0:Int) else 50)=50:=by rw [hrb];rfl
      repeat (first|((with_reducible apply RS.loadNB);(iterate 3 exact rfl);exact m0;exact n0;exact Nat.le_of_ble_eq_true rfl;exact (show takeV 0 4 (progC p P1 d1 P2 d2)=progC p P1 d1 P2 d2 from rfl))|((with_reducible apply (RS.callA (g0:=36)));(iterate 3 exact rfl);exact fun B' hB'=>hlb ▸ Light_tf p hok B' P1 d1 P2 d2 (hfs.mono hB'.up fun _ _ h=>funcR_mono hB'.up h) (hgs.mono hB'.up fun _ _ h=>globR_mono hB'.up h))|((with_reducible apply (RS.callA (g0:=37)));(iterate 3 exact rfl);exact fun B' hB'=>hrv ▸ Right_tf p hok hargs (π 0) 25 P1 d1 P2 d2 B' ⟨hB'.up _ _ m0,hfs.mono hB'.up fun _ _ h=>funcR_mono hB'.up h,hgs.mono hB'.up fun _ _ h=>globR_mono hB'.up h⟩)|((with_reducible first|apply RS.move|apply RS.assign);iterate 3 exact rfl)|((with_reducible apply RS.pickT);iterate 4 exact rfl)|((with_reducible apply RS.pickF);iterate 4 exact rfl)|((with_reducible apply RS.cmpF);(iterate 4 exact rfl);(simp only [cmpN];omega))|((with_reducible apply RS.skip);iterate 2 exact rfl)|((with_reducible apply RS.nil);exact mixed;kernel_rfl)|(with_reducible first|apply W.seq|apply W.ret|apply thenK_n)|((with_reducible apply W.reg);kernel_rfl))
      exact endsK_ret _ (.cons (.tmp rfl) .nil) fun B' a=>⟨rfl,fun j x hj=>a.up _ _ (a0.up _ _ hj)⟩
    | true =>
      have hrv:(if rightP p=true then (0:Int) else 50)=0:=by rw [hrb];rfl
      cases s1 with
      | false =>
        repeat (first|((with_reducible apply RS.loadNB);(iterate 3 exact rfl);first|exact m0;exact n0;exact Nat.le_of_ble_eq_true rfl;exact (show takeV 0 4 (progC p P1 d1 P2 d2)=progC p P1 d1 P2 d2 from rfl)|exact m1;exact n1';exact Nat.le_of_ble_eq_true rfl;exact (show takeV 0 2 [Value.slice A1 k1 c1,.slice A2 k2 c2]=[Value.slice A1 k1 c1,.slice A2 k2 c2] from rfl))|((with_reducible apply (RS.callA (g0:=36)));(iterate 3 exact rfl);exact fun B' hB'=>hlb ▸ Light_tf p hok B' P1 d1 P2 d2 (hfs.mono hB'.up fun _ _ h=>funcR_mono hB'.up h) (hgs.mono hB'.up fun _ _ h=>globR_mono hB'.up h))|((with_reducible apply (RS.callA (g0:=37)));(iterate 3 exact rfl);exact fun B' hB'=>hrv ▸ Right_tf p hok hargs (π 0) 25 P1 d1 P2 d2 B' ⟨hB'.up _ _ m0,hfs.mono hB'.up fun _ _ h=>funcR_mono hB'.up h,hgs.mono hB'.up fun _ _ h=>globR_mono hB'.up h⟩)|((with_reducible apply (RS.callA (g0:=38)));(iterate 3 exact rfl);exact fun B' hB'=>hS1 B')|((with_reducible first|apply RS.move|apply RS.assign);iterate 3 exact rfl)|((with_reducible apply RS.pickT);iterate 4 exact rfl)|((with_reducible apply RS.pickF);iterate 4 exact rfl)|((with_reducible apply RS.cmpC);iterate 5 exact rfl)|((with_reducible apply RS.skip);iterate 2 exact rfl)|((with_reducible apply RS.nil);exact mixed;kernel_rfl)|(with_reducible first|apply W.seq|apply W.ret|apply thenK_n)|((with_reducible apply W.reg);kernel_rfl))
        exact endsK_ret _ (.cons (.tmp rfl) .nil) fun B' a=>⟨rfl,fun j x hj=>a.up _ _ (a0.up _ _ hj)⟩
      | true =>
        cases s2 with
        | false =>
          repeat (first|((with_reducible apply RS.loadNB);(iterate 3 exact rfl);first|exact m0;exact n0;exact Nat.le_of_ble_eq_true rfl;exact (show takeV 0 4 (progC p P1 d1 P2 d2)=progC p P1 d1 P2 d2 from rfl)|exact m1;exact n1';exact Nat.le_of_ble_eq_true rfl;exact (show takeV 0 2 [Value.slice A1 k1 c1,.slice A2 k2 c2]=[Value.slice A1 k1 c1,.slice A2 k2 c2] from rfl)|exact m2;exact n2';exact Nat.le_of_ble_eq_true rfl;exact (show takeV 0 2 [Value.slice A3 k3 c3,.slice A4 k4 c4]=[Value.slice A3 k3 c3,.slice A4 k4 c4] from rfl))|((with_reducible apply (RS.callA (g0:=36)));(iterate 3 exact rfl);exact fun B' hB'=>hlb ▸ Light_tf p hok B' P1 d1 P2 d2 (hfs.mono hB'.up fun _ _ h=>funcR_mono hB'.up h) (hgs.mono hB'.up fun _ _ h=>globR_mono hB'.up h))|((with_reducible apply (RS.callA (g0:=37)));(iterate 3 exact rfl);exact fun B' hB'=>hrv ▸ Right_tf p hok hargs (π 0) 25 P1 d1 P2 d2 B' ⟨hB'.up _ _ m0,hfs.mono hB'.up fun _ _ h=>funcR_mono hB'.up h,hgs.mono hB'.up fun _ _ h=>globR_mono hB'.up h⟩)|((with_reducible apply (RS.callA (g0:=38)));(iterate 3 exact rfl);first|exact fun B' hB'=>hS1 B'|exact fun B' hB'=>hS2 B')|((with_reducible first|apply RS.move|apply RS.assign);iterate 3 exact rfl)|((with_reducible apply RS.pickT);iterate 4 exact rfl)|((with_reducible apply RS.cmpC);iterate 5 exact rfl)|((with_reducible apply RS.nil);exact mixed;kernel_rfl)|(with_reducible first|apply W.seq|apply W.ret|apply thenK_n)|((with_reducible apply W.reg);kernel_rfl))
          exact endsK_ret _ (.cons (.tmp rfl) .nil) fun B' a=>⟨rfl,fun j x hj=>a.up _ _ (a0.up _ _ hj)⟩
        | true =>
          repeat (first|((with_reducible apply RS.loadNB);(iterate 3 exact rfl);first|exact m0;exact n0;exact Nat.le_of_ble_eq_true rfl;exact (show takeV 0 4 (progC p P1 d1 P2 d2)=progC p P1 d1 P2 d2 from rfl)|exact m1;exact n1';exact Nat.le_of_ble_eq_true rfl;exact (show takeV 0 2 [Value.slice A1 k1 c1,.slice A2 k2 c2]=[Value.slice A1 k1 c1,.slice A2 k2 c2] from rfl)|exact m2;exact n2';exact Nat.le_of_ble_eq_true rfl;exact (show takeV 0 2 [Value.slice A3 k3 c3,.slice A4 k4 c4]=[Value.slice A3 k3 c3,.slice A4 k4 c4] from rfl))|((with_reducible apply (RS.callA (g0:=36)));(iterate 3 exact rfl);exact fun B' hB'=>hlb ▸ Light_tf p hok B' P1 d1 P2 d2 (hfs.mono hB'.up fun _ _ h=>funcR_mono hB'.up h) (hgs.mono hB'.up fun _ _ h=>globR_mono hB'.up h))|((with_reducible apply (RS.callA (g0:=37)));(iterate 3 exact rfl);exact fun B' hB'=>hrv ▸ Right_tf p hok hargs (π 0) 25 P1 d1 P2 d2 B' ⟨hB'.up _ _ m0,hfs.mono hB'.up fun _ _ h=>funcR_mono hB'.up h,hgs.mono hB'.up fun _ _ h=>globR_mono hB'.up h⟩)|((with_reducible apply (RS.callA (g0:=38)));(iterate 3 exact rfl);first|exact fun B' hB'=>hS1 B'|exact fun B' hB'=>hS2 B')|((with_reducible first|apply RS.move|apply RS.assign);iterate 3 exact rfl)|((with_reducible apply RS.pickT);iterate 4 exact rfl)|((with_reducible apply RS.cmpC);iterate 5 exact rfl)|((with_reducible apply RS.nil);exact mixed;kernel_rfl)|(with_reducible first|apply W.seq|apply W.ret|apply thenK_n)|((with_reducible apply W.reg);kernel_rfl))
          exact endsK_ret _ (.cons (.tmp rfl) .nil) fun B' a=>⟨rfl,fun j x hj=>a.up _ _ (a0.up _ _ hj)⟩
end Go.Proofs.YtjhloakacicdiaaDoor
namespace Go.Proofs.YtjhloakacicdiaaDoor
open Go.AH
attribute [local irreducible] W RS
theorem base_upS {h H:Hp} (hd:∀ i b,h.m i=some b→i < h.n) (hH:∀ id,id < h.n→H.m id=h.m id):∀ i b,h.m i=some b→H.m i=some b:=fun i b hb=>by rw [hH i (hd i b hb)];exact hb
theorem dec_len:∀ i:Fin 100,(Lib.decDigits i.val).length≤24:=by decide +kernel
theorem itoaS_size (n:Int):(itoaS n).data.size≤24:=by
  unfold itoaS
  split
  · rename_i h
    have:=dec_len ⟨n.toNat,by omega⟩
    simpa using this
  · split
    · simp only [byB,List.size_toArray,List.length_map]
      refine Nat.le_trans (List.length_take_le' _ _) ?_
      simp only [List.length_drop,List.length_set,fmtS_length,List.length_replicate]
      omega
    · simp only [byB,List.size_toArray,List.length_map]
      refine Nat.le_trans (List.length_take_le' _ _) ?_
      simp only [List.length_drop,fmtS_length,List.length_replicate]
      omega
def argT (a:ArgS):ByteArray:=if a.reg < 0 then itoaS a.num else ⟨#[114]⟩++itoaS a.reg
theorem sarg_tf (a:ArgS) (ha:a.ok) (h:Hp) (hg:GT h):TF Tryd.prog 41 ⟨[.agg ⟨argC a⟩]⟩ h (.string (argT a)) h:=by
  refine TF.dom fun hd=>?_
  by_cases hr:a.reg < 0
  · rw [argT,if_pos hr]
    refine TF.still (fn:=Tryd.f41) (c:=(Tryd.f41.body.getD .skip)) Tryd.func41 (by kernel_rfl) Tryd.ntmps41 (by kernel_rfl) (by simp) ?_
    conv=>arg 2;whnf
    repeat (first|((with_reducible apply RS.callB);(iterate 3 exact rfl);exact fun H hH=>(fmt10_tf _ ha.2 H (hg.up (base_upS hd hH)));exact Nm_free (by simp))|((with_reducible first|apply RS.assign|apply RS.fieldAddr|apply RS.box);iterate 3 exact rfl)|((with_reducible apply RS.cmpT);(iterate 4 exact rfl);(simp only [cmpP];omega))|((with_reducible apply RS.load1);iterate 6 exact rfl)|((with_reducible apply RS.nil);exact mixed;kernel_rfl)|(with_reducible first|apply W.seq|apply W.ret|apply thenK_n|apply thenK_r)|((with_reducible apply W.reg);kernel_rfl)|((with_reducible apply W.condT);kernel_rfl;exact rfl))
    exact endsK_ret _ (.cons (.tmp rfl) .nil) ⟨rfl,rfl⟩
  · rw [argT,if_neg hr]
    have hz:=itoaS_size a.reg
    refine TF.still (fn:=Tryd.f41) (c:=(Tryd.f41.body.getD .skip)) Tryd.func41 (by kernel_rfl) Tryd.ntmps41 (by kernel_rfl) (by simp) ?_
    conv=>arg 2;whnf
    repeat (first|((with_reducible apply RS.strAdd);(iterate 4 exact rfl);(simp only [ByteArray.size_append,ByteArray.size,List.size_toArray,List.length_cons,List.length_nil];omega))|((with_reducible apply RS.callB);(iterate 3 exact rfl);exact fun H hH=>(itoa_tf _ ha.1 H (hg.up (base_upS hd hH)));exact Nm_free (by simp))|((with_reducible first|apply RS.assign|apply RS.fieldAddr|apply RS.box);iterate 3 exact rfl)|((with_reducible apply RS.cmpF);(iterate 4 exact rfl);(simp only [cmpN];omega))|((with_reducible apply RS.load1);iterate 6 exact rfl)|((with_reducible apply RS.nil);exact mixed;kernel_rfl)|(with_reducible first|apply W.seq|apply W.ret|apply W.skip|apply thenK_n)|((with_reducible apply W.reg);kernel_rfl)|((with_reducible apply W.condF);kernel_rfl;exact rfl))
    exact endsK_ret _ (.cons (.tmp rfl) .nil) ⟨rfl,rfl⟩
end Go.Proofs.YtjhloakacicdiaaDoor
namespace Go.Proofs.YtjhloakacicdiaaDoor
open Go.AH
def strV (l:List ByteArray):List Value:=l.map Value.string
def strL (l:List ByteArray):List (List Value):=l.map fun s=>[Value.string s]
theorem strL_flat (l:List ByteArray):(strL l).flatten=strV l:=by
  induction l with
  | nil=>rfl
  | cons a l ih =>
    show [Value.string a]++(strL l).flatten=_
    rw [ih];rfl
theorem strL_len (l:List ByteArray):(strL l).length=l.length:=List.length_map ..
theorem strL_wid (l:List ByteArray):∀ c∈strL l,c.length=1:=by
  intro c hc
  obtain ⟨a,_,rfl⟩:=List.mem_map.1 hc
  rfl
theorem strL_nil {l:List ByteArray}:strL l≠[]↔l≠[]:=by cases l<;>simp [strL]
theorem strL_snoc (l:List ByteArray) (s:ByteArray):strL (l++[s])=strL l++[[.string s]]:=by simp [strL]
theorem strV_app (a b:List ByteArray):strV (a++b)=strV a++strV b:=List.map_append
structure RowI (h0:Hp) (r:Nat) (L:List ByteArray) (B:Hp):Prop where
  old:Old h0 B
  row:L≠[]→h0.n≤r∧B.m r=some ⟨⟨strV L⟩,9⟩
theorem RowI.up {h0:Hp} {r:Nat} {L:List ByteArray} {B B':Hp} (s:RowI h0 r L B) (hd:∀ i b,B.m i=some b→i < B.n) (o:Old B B'):RowI h0 r L B' :=
  ⟨s.old.trans o,fun hn=>⟨(s.row hn).1,o.up hd _ _ (s.row hn).2⟩⟩
theorem RowI.nil {h0 B:Hp} (r:Nat) (o:Old h0 B):RowI h0 r [] B:=⟨o,fun h=>absurd rfl h⟩
section
variable {ops:Array Oper} {rs:List Rk} {l:List Oper} {fl:List (Nat × Value)} {nt:Nat} {K:Fr→SH→Prop} {d:Tmp} {ty:TypeId} {pos:String} {af:Array Edge} {gd:Option (Nat × Bool)}
theorem RS.pushStr {h:SH} {t:TypeId} {x y:Operand} {r q c:Nat} {L:List ByteArray} {s:ByteArray} {h0:Hp} {e3:TypeId} [hu:TyU Tryd.prog t (.slice 9)] (hw:wantB ops ⟨some d,.call { callee:=.builtin .append,args:=#[x,y],argTypes:=#[t,t] },ty,pos,af,gd⟩ ⟨fl,nt⟩=some true) (hd:Nat.blt d nt=true)
    (hx:Fr.ev ⟨fl,nt⟩ x=some (rowVl 1 r (strL L))) (hy:Fr.ev ⟨fl,nt⟩ y=some (.slice (some ⟨q,0,none⟩) 1 c)) (h0w:rwM≤h0.n) (hI:RowI h0 r L h.base) (hq:∀ B,Absb (P:=Tryd.prog) h B→B.m q=some ⟨⟨[.string s]⟩,e3⟩) (hlen:L.length+1≤8000000000000)
    (hk:∀ r' H' π,Sat Tryd.prog H'→RowI h0 r' (L++[s]) H'→h.base.n≤r'→OffS (fun j=>j=r) h.base H' →
      RS Tryd.prog ops false (recP 0 false [] none::rs) l ⟨(d,rowVl 1 r' (strL (L++[s])))::fl,nt⟩ ⟨H',π,0,[]⟩ K):RS Tryd.prog ops false rs (⟨some d,.call { callee:=.builtin .append,args:=#[x,y],argTypes:=#[t,t] },ty,pos,af,gd⟩::l) ⟨fl,nt⟩ h K:=by
  refine RS.pushRow (e:=9) (L:=strL L) (v:=[.string s]) hw hd hx hy rfl rfl (fun B' a=>⟨hq B' a,fun hn=>?_⟩) (strL_wid L) rfl rfl (by rw [strL_len];omega) (by rw [strL_len];omega) fun B' a r' H' π sH hr hm hle hoff=>?_
  · have:=(hI.up a.bdom ⟨a.le,a.old⟩).row (strL_nil.1 hn)
    rw [strL_flat]
    exact ⟨Nat.le_trans h0w this.1,this.2⟩
  · have hI':=hI.up a.bdom ⟨a.le,a.old⟩
    rw [← strL_snoc]
    refine hk r' H' π sH ⟨⟨Nat.le_trans hI'.old.1 hle,fun i hi=>?_⟩,fun _=>⟨Nat.le_trans hI'.old.1 hr,?_⟩⟩ (Nat.le_trans a.le hr) ⟨Nat.le_trans a.le hle,fun i hi hn=>?_⟩
    · rw [hoff i (Nat.lt_of_lt_of_le hi hI'.old.1) fun hn e=>?_,hI'.old.2 i hi]
      have:=(hI'.row (strL_nil.1 hn)).1
      omega
    · rw [← strL_snoc,strL_flat] at hm;exact hm
    · rw [hoff i (Nat.lt_of_lt_of_le hi a.le) fun _ e=>hn e,a.old i hi]
end
theorem RS.pushStrD {draw:Bool} {B:Hp} {π:Nat→Nat} {k:Nat} {hl:List (Nat × Option Blk)} {ops:Array Oper} {rs:List Rk} {l:List Oper} {fl:List (Nat × Value)} {nt:Nat} {K:Fr→SH→Prop} {d:Tmp} {ty:TypeId} {pos:String} {af:Array Edge} {gd:Option (Nat × Bool)} {t:TypeId} {x y:Operand} {r q c:Nat} {L:List ByteArray} {s:ByteArray} {e2:TypeId} [hu:TyU Tryd.prog t (.slice 9)] (hw:wantB ops ⟨some d,.call { callee:=.builtin .append,args:=#[x,y],argTypes:=#[t,t] },ty,pos,af,gd⟩ ⟨fl,nt⟩=some true) (hd:Nat.blt d nt=true)
    (hx:Fr.ev ⟨fl,nt⟩ x=some (rowVl 1 r (strL L))) (hy:Fr.ev ⟨fl,nt⟩ y=some (.slice (some ⟨π q,0,none⟩) 1 c)) (hL:L≠[]) (hrow:B.m r=some ⟨⟨strV L⟩,9⟩) (hrn:r < B.n) (hrr:rwM≤r) (hqk:q < k) (hbq:lookB hl q=some ⟨⟨[.string s]⟩,e2⟩) (hlen:L.length+1≤8000000000000)
    (hk:RS Tryd.prog ops draw (recGL k q::rs) l ⟨(d,rowVl 1 (π k) (strL (L++[s])))::fl,nt⟩ ⟨B.kill r,π,k+1,(k,some ⟨⟨strV (L++[s])⟩,9⟩)::hl⟩ K):RS Tryd.prog ops draw rs (⟨some d,.call { callee:=.builtin .append,args:=#[x,y],argTypes:=#[t,t] },ty,pos,af,gd⟩::l) ⟨fl,nt⟩ ⟨B,π,k,hl⟩ K:=by
  rw [rowVl_eq,strL_len,if_neg (strL_nil.2 hL),if_neg (strL_nil.2 hL)] at hx
  rw [rowVl_eq,strL_len,if_neg (strL_nil.2 (by simp)),if_neg (strL_nil.2 (by simp)),strV_app,List.length_append] at hk
  exact RS.growL (e:=9) hw hd hx hy rfl rfl hrow hrn hrr (by simp [strV]) hqk hbq rfl rfl (by omega) (by omega) hk
theorem sjoinL_tf (xs:List ByteArray) (sep:ByteArray) (r:Nat) (h h0:Hp) (hI:RowI h0 r xs h) (h0w:rwM≤h0.n) (hN:xs.length≤140737488355328) (hlen:(Lib.join (xs.map (·.data.toList)) sep.data.toList).length≤140737488355328) :
    TF Tryd.prog 42 ⟨[rowVl 1 r (strL xs),.string sep]⟩ h (.string (linesS xs sep)) h:=by
  cases xs with
  | nil=>exact sjoinNone_tf sep 0 h
  | cons a l =>
    have hm:=(hI.row (by simp)).2
    have:=sjoinRow_tf (a::l) sep r (capOf 1) 9 [] h (by rw [List.append_nil];exact hm) (Nat.le_trans h0w (hI.row (by simp)).1) (.inl rfl) hN hlen
    rw [rowVl_eq,strL_len,if_neg (by simp [strL]),if_neg (by simp [strL])]
    exact this
theorem join_le (xs:List ByteArray) (sep:ByteArray) (M:Nat) (h:∀ s∈xs,s.data.size≤M):(Lib.join (xs.map (·.data.toList)) sep.data.toList).length≤xs.length * (M+sep.data.size):=by
  cases xs with
  | nil=>simp [Lib.join_nil]
  | cons a l =>
    rw [List.map_cons,Lib.join_length]
    have hl:∀ l:List ByteArray,(∀ s∈l,s.data.size≤M)→Lib.lens (l.map (·.data.toList))≤l.length * M:=by
      intro l
      induction l with
      | nil=>intro _;simp [Lib.lens]
      | cons b l ih =>
        intro hb
        have h1:=ih fun s hs=>hb s (by simp [hs])
        have h2:=hb b (by simp)
        simp only [Lib.lens,List.map_cons,List.sum_cons,List.length_cons,Nat.succ_mul,Array.length_toList] at h1 ⊢
        omega
    have h3:=hl (a::l) h
    rw [List.map_cons] at h3
    rw [List.length_cons] at h3
    rw [List.length_map,Array.length_toList,Nat.mul_add,List.length_cons]
    have h4:sep.data.size * l.length≤(l.length+1) * sep.data.size:=by rw [Nat.mul_comm];exact Nat.mul_le_mul_right _ (by omega)
    omega
end Go.Proofs.YtjhloakacicdiaaDoor
namespace Go.Proofs.YtjhloakacicdiaaDoor
open Go.AH
theorem wrap64_in (n:Int):-9223372036854775808≤IntKind.i64.wrap n∧IntKind.i64.wrap n≤9223372036854775807:=by
  simp only [IntKind.wrap,IntKind.signed,IntKind.bits];simp;omega
theorem fit_wrap (n:Int):fitI (IntKind.i64.wrap n):=wrap64_in n
end Go.Proofs.YtjhloakacicdiaaDoor
namespace Go.Proofs.YtjhloakacicdiaaDoor
open Go.AH
attribute [local irreducible] W RS
def namesS:List ByteArray:=[⟨#[]⟩,⟨#[99,111,110,115,116]⟩,⟨#[99,111,112,121]⟩,⟨#[97,100,100]⟩,⟨#[115,117,98]⟩,⟨#[109,117,108]⟩,⟨#[100,105,118]⟩,⟨#[117,100,105,118]⟩,⟨#[114,101,109]⟩,⟨#[117,114,101,109]⟩,⟨#[97,110,100]⟩,⟨#[111,114]⟩,⟨#[120,111,114]⟩,⟨#[115,104,108]⟩,⟨#[115,97,114]⟩,⟨#[115,104,114]⟩,⟨#[101,113]⟩,⟨#[110,101]⟩,⟨#[108,116]⟩,⟨#[108,101]⟩,⟨#[117,108,116]⟩,⟨#[117,108,101]⟩,⟨#[101,120,116]⟩,⟨#[103,108,111,98,97,108]⟩,⟨#[115,108,111,116]⟩,⟨#[102,117,110,99]⟩,⟨#[108,111,97,100]⟩,⟨#[115,116,111,114,101]⟩,⟨#[99,97,108,108]⟩,⟨#[99,97,108,108,97,116]⟩,⟨#[111,117,116]⟩]
def NT (h:Hp):Prop:=∃ e,h.m 0=some ⟨⟨strV namesS⟩,e⟩
theorem NT.up {h H:Hp} (g:NT h) (hu:∀ i b,h.m i=some b→H.m i=some b):NT H:=by
  obtain ⟨e,he⟩:=g
  exact ⟨e,hu _ _ he⟩
def nameS (op:Int):ByteArray:=(namesS[op.toNat]?).getD ⟨#[]⟩
theorem names_at {n:Nat} (hn:n < 31):(strV namesS)[0+n * 1]?=some (.string (nameS n)):=by
  have hl:n < namesS.length:=hn
  unfold nameS strV
  rw [Nat.zero_add,Nat.mul_one,List.getElem?_map,Int.toNat_natCast,List.getElem?_eq_getElem hl]
  rfl
theorem names_len:∀ n:Fin 31,((namesS[n.val]?).getD ⟨#[]⟩).data.size≤24:=by decide +kernel
theorem nameS_size (op:Int) (h0:0≤op) (h1:op < 31):(nameS op).data.size≤24:=names_len ⟨op.toNat,by omega⟩
def dstT (x:InsS):List ByteArray:=if 0≤x.dst then [⟨#[114]⟩++itoaS x.dst++⟨#[32,61]⟩] else []
def opT (x:InsS):ByteArray:=if 0 < x.op∧x.op < 31 then nameS x.op else ⟨#[63]⟩
def opT2 (x:InsS):ByteArray:=if x.op=22∨x.op=26∨x.op=27 then (if x.signed=true then opT x++itoaS (IntKind.i64.wrap (8 * x.size))++⟨#[115]⟩ else opT x++itoaS (IntKind.i64.wrap (8 * x.size))) else opT x
def refT (x:InsS):List ByteArray:=if x.op=23∨x.op=24∨x.op=25∨x.op=28 then [⟨#[35]⟩++itoaS x.ref] else []
def offT (x:InsS):List ByteArray:=if x.off=0 then [] else [⟨#[43]⟩++itoaS x.off]
def secT (x:InsS):List ByteArray:=if x.secret=true then [⟨#[115,101,99,114,101,116]⟩] else []
def headT (x:InsS):List ByteArray:=dstT x++[opT2 x]++refT x
def partsT (x:InsS):List ByteArray:=headT x++(readsS x).map argT++offT x++secT x
def insT (x:InsS):ByteArray:=linesS (partsT x) ⟨#[32]⟩
theorem dstT_len (x:InsS):(dstT x).length≤1:=by unfold dstT;split<;>simp
theorem refT_len (x:InsS):(refT x).length≤1:=by unfold refT;split<;>simp
theorem headT_ne (x:InsS):headT x≠[]:=by unfold headT;simp
theorem headT_len (x:InsS):(headT x).length≤3:=by
  have h1:=dstT_len x
  have h2:=refT_len x
  unfold headT
  simp only [List.length_append,List.length_cons,List.length_nil]
  omega
def PartsOK (L:List ByteArray):Prop:=L.length≤200000∧∀ s∈L,s.data.size≤100
theorem reads_small (x:InsS) (hn:x.args.length≤100000):(readsS x).length≤100001:=by
  unfold readsS
  repeat' split
  all_goals (first|omega|(simp;done)|(simp;omega))
theorem reads_ok {x:InsS} (hx:x.ok):∀ a∈readsS x,a.ok:=by
  intro a ha
  unfold readsS at ha
  repeat' split at ha
  all_goals (try simp only [List.mem_cons,List.not_mem_nil,or_false] at ha)
  · exact hx.args a ha
  · rcases ha with rfl|ha
    · exact hx.a
    · exact hx.args a ha
  · rcases ha with rfl|rfl
    · exact hx.a
    · exact hx.b
  · rw [ha];exact hx.a
theorem app_size (a b:ByteArray):(a++b).data.size=a.data.size+b.data.size:=ByteArray.size_append
theorem argT_size (a:ArgS):(argT a).data.size≤25:=by
  unfold argT
  split
  · have:=itoaS_size a.num;omega
  · rw [app_size]
    have:=itoaS_size a.reg
    have e:(⟨#[114]⟩:ByteArray).data.size=1:=rfl
    omega
theorem opT_size (x:InsS):(opT x).data.size≤24:=by
  unfold opT
  split
  · exact nameS_size _ (by omega) (by omega)
  · exact Nat.le_of_ble_eq_true rfl
theorem head_parts (x:InsS):∀ s∈headT x,s.data.size≤100:=by
  have hzd:=itoaS_size x.dst
  have hzr:=itoaS_size x.ref
  have hzs:=itoaS_size (IntKind.i64.wrap (8 * x.size))
  have hzt:=opT_size x
  have e1:(⟨#[114]⟩:ByteArray).data.size=1:=rfl
  have e2:(⟨#[32,61]⟩:ByteArray).data.size=2:=rfl
  have e3:(⟨#[35]⟩:ByteArray).data.size=1:=rfl
  have e4:(⟨#[115]⟩:ByteArray).data.size=1:=rfl
  intro s hs
  unfold headT dstT refT at hs
  simp only [List.mem_append,List.mem_cons,List.not_mem_nil,or_false] at hs
  rcases hs with (hs|hs)|hs
  · split at hs
    · simp only [List.mem_cons,List.not_mem_nil,or_false] at hs
      rw [hs,app_size,app_size];omega
    · cases hs
  · rw [hs]
    unfold opT2
    repeat' split
    · rw [app_size,app_size];omega
    · rw [app_size];omega
    · omega
  · split at hs
    · simp only [List.mem_cons,List.not_mem_nil,or_false] at hs
      rw [hs,app_size];omega
    · cases hs
theorem parts_ok (x:InsS) (hx:x.ok) (hn:x.args.length≤100000):(headT x++(readsS x).map argT).length≤100004∧∀ s∈headT x++(readsS x).map argT,s.data.size≤100:=by
  have h1:=headT_len x
  have h2:=reads_small x hn
  refine ⟨by simp only [List.length_append,List.length_map];omega,fun s hs=>?_⟩
  rcases List.mem_append.1 hs with h|h
  · exact head_parts x s h
  · obtain ⟨a,_,rfl⟩:=List.mem_map.1 h
    have:=argT_size a
    omega
theorem PartsOK.snoc {L:List ByteArray} {n:Nat} (h:L.length≤n∧∀ s∈L,s.data.size≤100) {s:ByteArray} (hs:s.data.size≤100):(L++[s]).length≤n+1∧∀ s'∈L++[s],s'.data.size≤100:=by
  refine ⟨by simp only [List.length_append,List.length_cons,List.length_nil];omega,fun s' h'=>?_⟩
  rcases List.mem_append.1 h' with e|e
  · exact h.2 s' e
  · rw [List.mem_singleton.1 e];exact hs
set_option maxRecDepth 100000 in
set_option maxHeartbeats 0 in
theorem insT_tf (x:InsS) (hx:x.ok) (A0:Option Addr) (c0:Nat) (h:Hp) (hl:SlAt h A0 2 x.args argR) (hn:x.args.length≤100000) (hg:GT h) (ht:NT h):TF Tryd.prog 40 ⟨[.agg ⟨insC x A0 c0⟩]⟩ h (.string (insT x)) h:=by
  have hzd:=itoaS_size x.dst
  have hzr:=itoaS_size x.ref
  have hzo:=itoaS_size x.off
  have hzs:=itoaS_size (IntKind.i64.wrap (8 * x.size))
  refine TF.exact (fn:=Tryd.f40) (c:=(Tryd.f40.body.getD .skip)) Tryd.func40 (by kernel_rfl) Tryd.ntmps40 (by kernel_rfl) (fun s0=>⟨Nat.le_refl _,by simp,fun i b hb=>⟨s0.dom i b hb,s0.bd i b hb⟩⟩) fun π s0=>?_
  conv=>arg 2;whnf
  ((with_reducible apply W.seq);repeat (first|((with_reducible first|apply RS.assign|apply RS.box);iterate 3 exact rfl)|((with_reducible apply RS.nil);exact mixed;kernel_rfl)|((with_reducible apply W.reg);kernel_rfl)|(with_reducible apply thenK_n)))
  refine W.absorbX fun B0 π0 a0=>?_
  have hX0:B0.m (π 0)=some ⟨⟨insC x A0 c0⟩,58⟩:=a0.loc 0 (by decide:(0:Nat) < 1)
  generalize π 0=q at *
  have hXn0:=a0.dom _ _ hX0
  have hw0:rwM≤B0.n:=a0.sat.rw
  have hgB0:=hg.up a0.up
  have hX:=hX0
  have hXn:=hXn0
  have hgB:=hgB0
  ((with_reducible apply W.seq);repeat (first|((with_reducible apply RS.assign);iterate 3 exact rfl)|((with_reducible apply RS.nil);exact mixed;kernel_rfl)|((with_reducible apply W.reg);kernel_rfl)|(with_reducible apply thenK_n)))
  ((with_reducible apply W.seq);repeat (fail))
  refine W.joinNT (X:=Nat) (fun r=>[(1,.pointer (some ⟨q,0,none⟩)),(3,rowVl 1 r (strL (dstT x)))]) (fun r B=>RowI B0 r (dstT x) B) ?_ ?_
  · have hRow:RowI B0 0 [] B0:=RowI.nil 0 (Old.refl B0)
    have hLen:([]:List ByteArray).length+1≤8000000000000:=by decide
    by_cases hd:0≤x.dst
    · have e:dstT x=[]++[⟨#[114]⟩++itoaS x.dst++⟨#[32,61]⟩]:=by unfold dstT;rw [if_pos hd];rfl
      repeat (first|((with_reducible apply RS.strAdd);(iterate 4 exact rfl);((try simp only [ByteArray.size_append]);simp only [ByteArray.size,List.size_toArray,List.length_cons,List.length_nil];omega))|((with_reducible apply RS.load1B);(iterate 3 exact rfl);exact hX;exact hXn;exact rfl)|((with_reducible apply (RS.callA (g0:=39)));(iterate 3 exact rfl);exact fun B' hB'=>itoa_tf x.dst hx.dst B' (hgB.up fun i b hb=>hB'.up i b hb))|((with_reducible apply RS.buildSlice);iterate 8 exact rfl)|((with_reducible apply (RS.pushStr (h0:=B0) (L:=[]) (r:=0)));(iterate 4 exact rfl);exact hw0;exact hRow;exact (fun B' a=>(a.loc 0 (by decide:(0:Nat) < 1)).trans rfl);exact hLen;intro r1 H1 π1 s1 hR1 hr1 ho1)|((with_reducible first|apply RS.move|apply RS.assign|apply RS.fieldAddr);iterate 3 exact rfl)|((with_reducible apply RS.cmpT);(iterate 4 exact rfl);(simp only [cmpP];omega))|((with_reducible apply RS.nil);exact mixed;kernel_rfl)|(with_reducible first|apply W.seq|apply thenK_n)|((with_reducible apply W.reg);kernel_rfl)|((with_reducible apply W.condT);kernel_rfl;exact rfl))
      refine joinN_n rfl fun B' a=>⟨r1,?_,by rw [e];exact hR1.up s1.dom a.oldH⟩
      rw [e]
      (repeat' (first|exact trivial|exact rfl|apply And.intro));done
    · have e:dstT x=[]:=by unfold dstT;rw [if_neg hd]
      repeat (first|((with_reducible apply RS.load1B);(iterate 3 exact rfl);exact hX;exact hXn;exact rfl)|((with_reducible apply RS.cmpF);(iterate 4 exact rfl);(simp only [cmpN];omega))|((with_reducible apply RS.fieldAddr);iterate 3 exact rfl)|((with_reducible apply RS.nil);exact mixed;kernel_rfl)|(with_reducible first|apply W.seq|apply W.skip|apply thenK_n)|((with_reducible apply W.reg);kernel_rfl)|((with_reducible apply W.condF);kernel_rfl;exact rfl))
      refine joinN_n rfl fun B' a=>⟨0,?_,by rw [e];exact RowI.nil 0 a.oldH⟩
      rw [e]
      (repeat' (first|exact trivial|exact rfl|apply And.intro));done
  rintro r2 B2 π2 sB2 hRow2
  have hX:=hRow2.old.up a0.dom _ _ hX0
  have hXn:=sB2.dom _ _ hX
  have hgB:=hgB0.up (hRow2.old.up a0.dom)
  ((with_reducible apply W.seq);repeat (first|((with_reducible apply RS.assign);iterate 3 exact rfl)|((with_reducible apply RS.nil);exact mixed;kernel_rfl)|((with_reducible apply W.reg);kernel_rfl)|(with_reducible apply thenK_n)))
  with_reducible apply W.seq
  refine W.joinNT (X:=Nat) (fun r=>[(1,.pointer (some ⟨q,0,none⟩)),(3,rowVl 1 r (strL (dstT x))),(4,.string (opT x))]) (fun r B=>RowI B0 r (dstT x) B) ?_ ?_
  · by_cases h0:0 < x.op
    · by_cases h1:x.op < 31
      · have e:opT x=nameS x.op:=by unfold opT;rw [if_pos ⟨h0,h1⟩]
        obtain ⟨te,hG0⟩:=ht
        have hG:=hRow2.old.up a0.dom _ _ (a0.up _ _ hG0)
        have hGn:=sB2.dom _ _ hG
        have hat:=names_at (n:=x.op.toNat) (by omega)
        rw [Int.toNat_of_nonneg (by omega)] at hat
        repeat (first|((with_reducible apply (RS.indexAddrArr (m:=x.op.toNat)));(iterate 3 exact rfl);exact (show _=_ from congrArg (fun z=>some (Value.int IntKind.i64 z)) (Int.toNat_of_nonneg (by omega)).symm);omega)|((with_reducible apply RS.load1B);(iterate 3 exact rfl);first|exact hG;exact hGn;exact hat|exact hX;exact hXn;exact rfl)|((with_reducible first|apply RS.move|apply RS.assign|apply RS.fieldAddr);iterate 3 exact rfl)|((with_reducible apply RS.pickT);iterate 4 exact rfl)|((with_reducible apply RS.cmpT);(iterate 4 exact rfl);(simp only [cmpP];omega))|((with_reducible apply RS.nil);exact mixed;kernel_rfl)|(with_reducible first|apply W.seq|apply thenK_n)|((with_reducible apply W.reg);kernel_rfl)|((with_reducible apply W.condT);kernel_rfl;exact rfl))
        refine joinN_n rfl fun B' a=>⟨r2,?_,hRow2.up sB2.dom a.oldH⟩
        rw [e]
        (repeat' (first|exact trivial|exact rfl|apply And.intro));done
      · have e:opT x=⟨#[63]⟩:=by unfold opT;rw [if_neg (fun h=>h1 h.2)]
        repeat (first|((with_reducible apply RS.load1B);(iterate 3 exact rfl);exact hX;exact hXn;exact rfl)|((with_reducible first|apply RS.move|apply RS.fieldAddr);iterate 3 exact rfl)|((with_reducible apply RS.pickT);iterate 4 exact rfl)|((with_reducible apply RS.cmpT);(iterate 4 exact rfl);(simp only [cmpP];omega))|((with_reducible apply RS.cmpF);(iterate 4 exact rfl);(simp only [cmpN];omega))|((with_reducible apply RS.nil);exact mixed;kernel_rfl)|(with_reducible first|apply W.seq|apply W.skip|apply thenK_n)|((with_reducible apply W.reg);kernel_rfl)|((with_reducible apply W.condF);kernel_rfl;exact rfl))
        refine joinN_n rfl fun B' a=>⟨r2,?_,hRow2.up sB2.dom a.oldH⟩
        rw [e]
        (repeat' (first|exact trivial|exact rfl|apply And.intro));done
    · have e:opT x=⟨#[63]⟩:=by unfold opT;rw [if_neg (fun h=>h0 h.1)]
      repeat (first|((with_reducible apply RS.load1B);(iterate 3 exact rfl);exact hX;exact hXn;exact rfl)|((with_reducible first|apply RS.move|apply RS.fieldAddr);iterate 3 exact rfl)|((with_reducible apply RS.pickF);iterate 4 exact rfl)|((with_reducible apply RS.cmpF);(iterate 4 exact rfl);(simp only [cmpN];omega))|((with_reducible apply RS.skip);iterate 2 exact rfl)|((with_reducible apply RS.nil);exact mixed;kernel_rfl)|(with_reducible first|apply W.seq|apply W.skip|apply thenK_n)|((with_reducible apply W.reg);kernel_rfl)|((with_reducible apply W.condF);kernel_rfl;exact rfl))
      refine joinN_n rfl fun B' a=>⟨r2,?_,hRow2.up sB2.dom a.oldH⟩
      rw [e]
      (repeat' (first|exact trivial|exact rfl|apply And.intro));done
  rintro r3 B3 π3 sB3 hRow3
  have hX:=hRow3.old.up a0.dom _ _ hX0
  have hXn:=sB3.dom _ _ hX
  have hgB:=hgB0.up (hRow3.old.up a0.dom)
  have hzt:=opT_size x
  with_reducible apply W.seq
  refine W.joinNT (X:=Nat) (fun r=>[(1,.pointer (some ⟨q,0,none⟩)),(3,rowVl 1 r (strL (dstT x))),(4,.string (opT2 x))]) (fun r B=>RowI B0 r (dstT x) B) ?_ ?_
  · by_cases hc:x.op=22∨x.op=26∨x.op=27
    · cases hsg:x.signed with
      | true =>
        have e:opT2 x=opT x++itoaS (IntKind.i64.wrap (8 * x.size))++⟨#[115]⟩:=by unfold opT2;rw [if_pos hc,if_pos hsg]
        have hc3:x.op=22∨(¬ x.op=22∧x.op=26)∨(¬ x.op=22∧¬ x.op=26∧x.op=27):=by omega
        rcases hc3 with hc|⟨hc,hc1⟩|⟨hc,hc1,hc2⟩
        all_goals
          repeat (first|((with_reducible apply W.condT);kernel_rfl;exact congrArg (fun b=>some (Value.bool b)) hsg)|((with_reducible apply RS.strAdd);(iterate 4 exact rfl);((try simp only [ByteArray.size_append]);simp only [ByteArray.size,List.size_toArray,List.length_cons,List.length_nil];omega))|((with_reducible apply RS.load1B);(iterate 3 exact rfl);exact hX;exact hXn;exact rfl)|((with_reducible apply (RS.callA (g0:=39)));(iterate 3 exact rfl);exact fun B' hB'=>itoa_tf (IntKind.i64.wrap (8 * x.size)) (fit_wrap _) B' (hgB.up fun i b hb=>hB'.up i b hb))|((with_reducible first|apply RS.move|apply RS.assign|apply RS.fieldAddr);iterate 3 exact rfl)|((with_reducible apply RS.pickT);iterate 4 exact rfl)|((with_reducible apply RS.pickF);iterate 4 exact rfl)|((with_reducible apply RS.cmpT);(iterate 4 exact rfl);(simp only [cmpP];omega))|((with_reducible apply RS.cmpF);(iterate 4 exact rfl);(simp only [cmpN];omega))|((with_reducible apply RS.bin);iterate 5 exact rfl)|((with_reducible apply RS.skip);iterate 2 exact rfl)|((with_reducible apply RS.nil);exact mixed;kernel_rfl)|(with_reducible first|apply W.seq|apply thenK_n)|((with_reducible apply W.reg);kernel_rfl)|((with_reducible apply W.condT);kernel_rfl;exact rfl))
          refine joinN_n rfl fun B' a=>⟨r3,?_,hRow3.up sB3.dom a.oldH⟩
          rw [e]
          (repeat' (first|exact trivial|exact rfl|apply And.intro));done
      | false =>
        have e:opT2 x=opT x++itoaS (IntKind.i64.wrap (8 * x.size)):=by unfold opT2;rw [if_pos hc,if_neg (by rw [hsg];decide)]
        have hc3:x.op=22∨(¬ x.op=22∧x.op=26)∨(¬ x.op=22∧¬ x.op=26∧x.op=27):=by omega
        rcases hc3 with hc|⟨hc,hc1⟩|⟨hc,hc1,hc2⟩
        all_goals
          repeat (first|((with_reducible apply W.condF);kernel_rfl;exact congrArg (fun b=>some (Value.bool b)) hsg)|((with_reducible apply RS.strAdd);(iterate 4 exact rfl);((try simp only [ByteArray.size_append]);simp only [ByteArray.size,List.size_toArray,List.length_cons,List.length_nil];omega))|((with_reducible apply RS.load1B);(iterate 3 exact rfl);exact hX;exact hXn;exact rfl)|((with_reducible apply (RS.callA (g0:=39)));(iterate 3 exact rfl);exact fun B' hB'=>itoa_tf (IntKind.i64.wrap (8 * x.size)) (fit_wrap _) B' (hgB.up fun i b hb=>hB'.up i b hb))|((with_reducible first|apply RS.move|apply RS.assign|apply RS.fieldAddr);iterate 3 exact rfl)|((with_reducible apply RS.pickT);iterate 4 exact rfl)|((with_reducible apply RS.pickF);iterate 4 exact rfl)|((with_reducible apply RS.cmpT);(iterate 4 exact rfl);(simp only [cmpP];omega))|((with_reducible apply RS.cmpF);(iterate 4 exact rfl);(simp only [cmpN];omega))|((with_reducible apply RS.bin);iterate 5 exact rfl)|((with_reducible apply RS.skip);iterate 2 exact rfl)|((with_reducible apply RS.nil);exact mixed;kernel_rfl)|(with_reducible first|apply W.seq|apply W.skip|apply thenK_n)|((with_reducible apply W.reg);kernel_rfl)|((with_reducible apply W.condT);kernel_rfl;exact rfl))
          refine joinN_n rfl fun B' a=>⟨r3,?_,hRow3.up sB3.dom a.oldH⟩
          rw [e]
          (repeat' (first|exact trivial|exact rfl|apply And.intro));done
    · have e:opT2 x=opT x:=by unfold opT2;rw [if_neg hc]
      have hc1:¬ x.op=22:=by omega
      have hc2:¬ x.op=26:=by omega
      have hc4:¬ x.op=27:=by omega
      repeat (first|((with_reducible apply RS.load1B);(iterate 3 exact rfl);exact hX;exact hXn;exact rfl)|((with_reducible first|apply RS.move|apply RS.fieldAddr);iterate 3 exact rfl)|((with_reducible apply RS.pickF);iterate 4 exact rfl)|((with_reducible apply RS.cmpF);(iterate 4 exact rfl);(simp only [cmpN];omega))|((with_reducible apply RS.nil);exact mixed;kernel_rfl)|(with_reducible first|apply W.seq|apply W.skip|apply thenK_n)|((with_reducible apply W.reg);kernel_rfl)|((with_reducible apply W.condF);kernel_rfl;exact rfl))
      refine joinN_n rfl fun B' a=>⟨r3,?_,hRow3.up sB3.dom a.oldH⟩
      rw [e]
      (repeat' (first|exact trivial|exact rfl|apply And.intro));done
  rintro r4 B4 π4 sB4 hRow
  have hX:=hRow.old.up a0.dom _ _ hX0
  have hXn:=sB4.dom _ _ hX
  have hgB:=hgB0.up (hRow.old.up a0.dom)
  have hLen:(dstT x).length+1≤8000000000000:=by have:=dstT_len x;omega
  ((with_reducible apply W.seq);repeat (first|((with_reducible apply RS.buildSlice);iterate 8 exact rfl)|((with_reducible apply (RS.pushStr (h0:=B0)));(iterate 4 exact rfl);exact hw0;exact hRow;exact (fun B' a=>(a.loc 0 (by decide:(0:Nat) < 1)).trans rfl);exact hLen;intro r1 H1 π1 s1 hR1 hr1 ho1)|((with_reducible first|apply RS.move|apply RS.assign);iterate 3 exact rfl)|((with_reducible apply RS.nil);exact mixed;kernel_rfl)|((with_reducible apply W.reg);kernel_rfl)|(with_reducible apply thenK_n)))
  have hRow5:=hR1
  have hX:=hRow5.old.up a0.dom _ _ hX0
  have hXn:=s1.dom _ _ hX
  have hgB:=hgB0.up (hRow5.old.up a0.dom)
  have hRow:=hRow5
  have hLen:(dstT x++[opT2 x]).length+1≤8000000000000:=by have:=dstT_len x;simp only [List.length_append,List.length_cons,List.length_nil];omega
  with_reducible apply W.seq
  refine W.joinNT (X:=Nat) (fun r=>[(1,.pointer (some ⟨q,0,none⟩)),(3,rowVl 1 r (strL (headT x)))]) (fun r B=>RowI B0 r (headT x) B) ?_ ?_
  · by_cases hc:x.op=23∨x.op=24∨x.op=25∨x.op=28
    · have e:headT x=(dstT x++[opT2 x])++[⟨#[35]⟩++itoaS x.ref]:=by unfold headT refT;rw [if_pos hc]
      have hc3:x.op=23∨(¬ x.op=23∧x.op=24)∨(¬ x.op=23∧¬ x.op=24∧x.op=25)∨(¬ x.op=23∧¬ x.op=24∧¬ x.op=25∧x.op=28):=by omega
      rcases hc3 with hc|⟨hc,hc1⟩|⟨hc,hc1,hc2⟩|⟨hc,hc1,hc2,hc3⟩
      all_goals
        repeat (first|((with_reducible apply RS.strAdd);(iterate 4 exact rfl);((try simp only [ByteArray.size_append]);simp only [ByteArray.size,List.size_toArray,List.length_cons,List.length_nil];omega))|((with_reducible apply RS.load1B);(iterate 3 exact rfl);exact hX;exact hXn;exact rfl)|((with_reducible apply (RS.callA (g0:=39)));(iterate 3 exact rfl);exact fun B' hB'=>itoa_tf x.ref hx.ref B' (hgB.up fun i b hb=>hB'.up i b hb))|((with_reducible apply RS.buildSlice);iterate 8 exact rfl)|((with_reducible apply (RS.pushStr (h0:=B0)));(iterate 4 exact rfl);exact hw0;exact hRow;exact (fun B' a=>(a.loc 0 (by decide:(0:Nat) < 1)).trans rfl);exact hLen;intro r1 H1 π1 s1 hR1 hr1 ho1)|((with_reducible first|apply RS.move|apply RS.assign|apply RS.fieldAddr);iterate 3 exact rfl)|((with_reducible apply RS.cmpT);(iterate 4 exact rfl);(simp only [cmpP];omega))|((with_reducible apply RS.cmpF);(iterate 4 exact rfl);(simp only [cmpN];omega))|((with_reducible apply RS.nil);exact mixed;kernel_rfl)|(with_reducible first|apply W.seq|apply W.block|apply W.skip|apply thenK_n|apply blockK_n)|((with_reducible apply W.reg);kernel_rfl)|((with_reducible apply W.condT);kernel_rfl;exact rfl)|((with_reducible apply W.condF);kernel_rfl;exact rfl))
        refine joinN_n rfl fun B' a=>⟨r1,?_,by rw [e];exact hR1.up s1.dom a.oldH⟩
        rw [e]
        (repeat' (first|exact trivial|exact rfl|apply And.intro));done
    · have e:headT x=dstT x++[opT2 x]:=by unfold headT refT;rw [if_neg hc,List.append_nil]
      have hc1:¬ x.op=23:=by omega
      have hc2:¬ x.op=24:=by omega
      have hc3:¬ x.op=25:=by omega
      have hc4:¬ x.op=28:=by omega
      repeat (first|((with_reducible apply RS.load1B);(iterate 3 exact rfl);exact hX;exact hXn;exact rfl)|((with_reducible first|apply RS.assign|apply RS.fieldAddr);iterate 3 exact rfl)|((with_reducible apply RS.cmpF);(iterate 4 exact rfl);(simp only [cmpN];omega))|((with_reducible apply RS.nil);exact mixed;kernel_rfl)|(with_reducible first|apply W.seq|apply W.block|apply W.skip|apply thenK_n|apply blockK_n)|((with_reducible apply W.reg);kernel_rfl)|((with_reducible apply W.condF);kernel_rfl;exact rfl))
      refine joinN_n rfl fun B' a=>⟨r1,?_,by rw [e];exact hRow5.up s1.dom a.oldH⟩
      rw [e]
      (repeat' (first|exact trivial|exact rfl|apply And.intro));done
  rintro r6 B6 π6 sB6 hRow6
  have hX:=hRow6.old.up a0.dom _ _ hX0
  have hXn:=sB6.dom _ _ hX
  have hup6:=hRow6.old.up a0.dom
  have hl0:=hl.mono a0.up fun _ _ h=>h
  have hrdl:=readsS_len x (by omega)
  have hrl:=reads_small x hn
  have hrok:=reads_ok hx
  have hhl:=headT_len x
  repeat (first|((with_reducible apply RS.loadNB);(iterate 3 exact rfl);exact hX;exact hXn;exact Nat.le_of_ble_eq_true rfl;exact (show takeV 0 12 (insC x A0 c0)=insC x A0 c0 from rfl))|((with_reducible apply (RS.callEx (g0:=50)));(iterate 3 exact rfl);intro B6' hB6;refine ⟨_,reads_ex x A0 c0 (by omega) B6' (hl0.mono (fun i b hb=>hB6.up i b (hup6 i b hb)) fun _ _ h=>h),?_⟩;rintro v H7 π7 ⟨A7,c7,rfl,hRd,ho7⟩ sH7 hle7)|((with_reducible first|apply RS.move|apply RS.lenSl);iterate 3 exact rfl)|((with_reducible apply RS.nil);exact mixed;kernel_rfl)|(with_reducible first|apply W.seq|apply W.block|apply thenK_n)|((with_reducible apply W.reg);kernel_rfl))
  have hRow7:RowI B0 r6 (headT x) H7:=(hRow6.up sB6.dom (hB6.oldH.trans ho7))
  refine W.loopN (X:=Nat × Nat) (fun z=>[(1,.pointer (some ⟨q,0,none⟩)),(72,.slice A7 (readsS x).length c7),(73,.int .i64 ((readsS x).length:Int)),(74,.int .i64 (z.1:Int)),(3,rowVl 1 z.2 (strL (headT x++((readsS x).take z.1).map argT)))]) (fun z B=>z.1≤(readsS x).length∧(OffS (fun j=>j=r6) H7 B∧(z.2=r6∨H7.n≤z.2))∧RowI B0 z.2 (headT x++((readsS x).take z.1).map argT) B) (fun z=>(readsS x).length - z.1)
    (fun B' a=>⟨(0,r6),?_,⟨Nat.zero_le _,⟨a.oldH.off,.inl rfl⟩,by rw [List.take_zero,List.map_nil,List.append_nil];exact hRow7.up sH7.dom a.oldH⟩⟩) ?_
  · rw [List.take_zero,List.map_nil,List.append_nil]
    (repeat' (first|exact trivial|exact rfl|apply And.intro));done
  rintro ⟨i,r8⟩ B8 π8 sB8 ⟨hi,⟨off8,hr8⟩,hRow⟩
  dsimp only at hi hRow hr8 ⊢
  have hgB:=hgB0.up (hRow.old.up a0.dom)
  have hLen:(headT x++((readsS x).take i).map argT).length+1≤8000000000000:=by
    simp only [List.length_append,List.length_map,List.length_take]
    omega
  by_cases hlt:i < (readsS x).length
  · obtain ⟨a,ha⟩:∃ a,(readsS x)[i]?=some a:=⟨_,List.getElem?_eq_getElem hlt⟩
    obtain ⟨ab,ao,acs,ae,rfl,hG0,hGl,hGv⟩:=hRd.get i a ha
    have hGv:takeV (ao+i * 2) 2 acs=argC a:=hGv
    have hG:B8.m ab=some ⟨⟨acs⟩,ae⟩:=by
      rw [off8.2 ab (sH7.dom _ _ hG0) fun e=>?_]
      · exact hG0
      · have h1:=(hRow7.row (headT_ne x)).2
        rw [← e,hG0] at h1
        injection h1 with h1
        injection h1 with h1 _
        injection h1 with h1
        have h2:=take_nth hGv (j:=0) rfl
        rw [h1] at h2
        unfold strV at h2
        rw [List.getElem?_map] at h2
        cases h3:(headT x)[ao+i * 2+0]? with
        | none=>rw [h3] at h2;cases h2
        | some s=>rw [h3] at h2;cases h2
    have hGn:=sB8.dom _ _ hG
    have haok:=hrok a (List.mem_of_getElem? ha)
    have etk:headT x++((readsS x).take (i+1)).map argT=headT x++((readsS x).take i).map argT++[argT a]:=by
      rw [List.take_add_one,ha]
      simp
    repeat (first|((with_reducible apply RS.indexAddrS);(iterate 5 exact rfl);omega)|((with_reducible apply RS.loadNB);(iterate 3 exact rfl);exact hG;exact hGn;exact hGl;exact hGv)|((with_reducible apply (RS.callA (g0:=41)));(iterate 3 exact rfl);exact fun B' hB'=>sarg_tf a haok B' (hgB.up fun i b hb=>hB'.up i b hb))|((with_reducible apply (RS.pushStr (h0:=B0)));(iterate 4 exact rfl);exact hw0;exact hRow;exact (fun B' a=>(a.loc 1 (by decide:(1:Nat) < 2)).trans rfl);exact hLen;intro r1 H1 π1 s1 hR1 hr1 ho1)|((with_reducible apply RS.buildSlice);iterate 8 exact rfl)|((with_reducible first|apply RS.move|apply RS.assign);iterate 3 exact rfl)|((with_reducible apply RS.cmpT);(iterate 4 exact rfl);(simp only [cmpP];omega))|((with_reducible apply RS.add1);(iterate 4 exact rfl);omega)|((with_reducible apply RS.loadN);(iterate 5 exact rfl);exact Nat.le_of_ble_eq_true rfl)|((with_reducible apply RS.store);(iterate 5 exact rfl);exact Nat.le_of_ble_eq_true rfl;iterate 3 exact rfl)|((with_reducible apply RS.alloc);iterate 2 exact rfl)|((with_reducible apply RS.nil);exact mixed;kernel_rfl)|(with_reducible first|apply W.seq|apply W.block|apply W.skip|apply thenK_n|apply blockK_n)|((with_reducible apply W.reg);kernel_rfl)|((with_reducible apply W.condT);kernel_rfl;exact rfl))
    refine roundN_n rfl fun B' y=>⟨(i+1,r1),?_,⟨by dsimp only;omega,⟨((off8.trans (T:=fun j=>j=r8) ho1 fun j hj e=>Or.elim hr8 (fun e'=>e.trans e') (fun e'=>by omega))).same y.oldH.off,.inr (Nat.le_trans off8.1 hr1)⟩,by dsimp only;rw [etk];exact hR1.up s1.dom y.oldH⟩,by dsimp only;omega⟩
    dsimp only
    rw [etk]
    (repeat' (first|exact trivial|exact rfl|apply And.intro));done
  · have hni:i=(readsS x).length:=by omega
    have eall:headT x++((readsS x).take i).map argT=headT x++(readsS x).map argT:=by rw [hni,List.take_length]
    rw [eall] at hRow hLen ⊢
    have hX:=hRow.old.up a0.dom _ _ hX0
    have hXn:=sB8.dom _ _ hX
    have hP0:=parts_ok x hx hn
    have hJ:∀ (L:List ByteArray) (r:Nat) (B B':Hp),RowI B0 r L B→(∀ i b,B.m i=some b→i < B.n)→Old B B'→PartsOK L→TF Tryd.prog 42 ⟨[rowVl 1 r (strL L),.string ⟨#[32]⟩]⟩ B' (.string (linesS L ⟨#[32]⟩)) B':=by
      intro L r B B' h1 h2 h3 h4
      have hle:=join_le L ⟨#[32]⟩ 100 h4.2
      have h5:=h4.1
      have h6:L.length * (100+(⟨#[32]⟩:ByteArray).data.size)≤140737488355328:=by
        have:(⟨#[32]⟩:ByteArray).data.size=1:=rfl
        rw [this];omega
      exact sjoinL_tf L _ r B' B0 (h1.up h2 h3) hw0 (by omega) (Nat.le_trans hle h6)
    have hins:insT x=linesS (headT x++(readsS x).map argT++offT x++secT x) ⟨#[32]⟩:=rfl
    by_cases hoff:x.off=0
    · have eo:offT x=[]:=by unfold offT;rw [if_pos hoff]
      rw [eo,List.append_nil] at hins
      cases hsg:x.secret with
      | true =>
        have es:secT x=[⟨#[115,101,99,114,101,116]⟩]:=by unfold secT;rw [if_pos hsg]
        rw [es] at hins
        have hP1:=PartsOK.snoc hP0 (s:=⟨#[115,101,99,114,101,116]⟩) (Nat.le_of_ble_eq_true rfl)
        repeat (first|((with_reducible apply W.condT);kernel_rfl;exact congrArg (fun b=>some (Value.bool b)) hsg)|((with_reducible apply (RS.callA (g0:=42)));(iterate 3 exact rfl);exact fun B' hB'=>hJ _ _ _ B' (by first|exact hR1|exact hRow) hB'.bdom hB'.oldH (by first|exact ⟨by have:=hP2.1;omega,hP2.2⟩|exact ⟨by have:=hP1.1;omega,hP1.2⟩|exact ⟨by have:=hP0.1;omega,hP0.2⟩))|((with_reducible apply RS.load1B);(iterate 3 exact rfl);exact hX;exact hXn;exact rfl)|((with_reducible apply RS.buildSlice);iterate 8 exact rfl)|((with_reducible apply (RS.pushStr (h0:=B0)));(iterate 4 exact rfl);exact hw0;exact hRow;exact (fun B' a=>(a.loc 0 (by decide:(0:Nat) < 1)).trans rfl);exact hLen;intro r1 H1 π1 s1 hR1 hr1 ho1)|((with_reducible first|apply RS.move|apply RS.assign|apply RS.fieldAddr);iterate 3 exact rfl)|((with_reducible apply RS.cmpF);(iterate 4 exact rfl);(simp only [cmpN];omega))|((with_reducible apply RS.nil);exact mixed;kernel_rfl)|(with_reducible first|apply W.seq|apply W.exit|apply W.ret|apply W.skip|apply thenK_n|apply thenK_e|apply roundN_e)|((with_reducible apply W.reg);kernel_rfl)|((with_reducible apply W.condF);kernel_rfl;exact rfl)|((with_reducible apply blockK_hit);exact rfl))
        exact endsK_ret _ (.cons (.tmp rfl) .nil) fun B' y=>⟨by rw [hins];rfl,fun j x hj=>y.up _ _ (hR1.old.up a0.dom _ _ (a0.up _ _ hj))⟩
      | false =>
        have es:secT x=[]:=by unfold secT;rw [if_neg (by rw [hsg];decide)]
        rw [es,List.append_nil] at hins
        repeat (first|((with_reducible apply W.condF);kernel_rfl;exact congrArg (fun b=>some (Value.bool b)) hsg)|((with_reducible apply (RS.callA (g0:=42)));(iterate 3 exact rfl);exact fun B' hB'=>hJ _ _ _ B' (by first|exact hR1|exact hRow) hB'.bdom hB'.oldH (by first|exact ⟨by have:=hP2.1;omega,hP2.2⟩|exact ⟨by have:=hP1.1;omega,hP1.2⟩|exact ⟨by have:=hP0.1;omega,hP0.2⟩))|((with_reducible apply RS.load1B);(iterate 3 exact rfl);exact hX;exact hXn;exact rfl)|((with_reducible first|apply RS.move|apply RS.assign|apply RS.fieldAddr);iterate 3 exact rfl)|((with_reducible apply RS.cmpF);(iterate 4 exact rfl);(simp only [cmpN];omega))|((with_reducible apply RS.nil);exact mixed;kernel_rfl)|(with_reducible first|apply W.seq|apply W.exit|apply W.ret|apply W.skip|apply thenK_n|apply thenK_e|apply roundN_e)|((with_reducible apply W.reg);kernel_rfl)|((with_reducible apply W.condF);kernel_rfl;exact rfl)|((with_reducible apply blockK_hit);exact rfl))
        exact endsK_ret _ (.cons (.tmp rfl) .nil) fun B' y=>⟨by rw [hins];rfl,fun j x hj=>y.up _ _ (hRow.old.up a0.dom _ _ (a0.up _ _ hj))⟩
    · have eo:offT x=[⟨#[43]⟩++itoaS x.off]:=by unfold offT;rw [if_neg hoff]
      rw [eo] at hins
      have hP1:=PartsOK.snoc hP0 (s:=⟨#[43]⟩++itoaS x.off) (by
        have e1:(⟨#[43]⟩++itoaS x.off).data.size=1+(itoaS x.off).data.size:=ByteArray.size_append
        rw [e1];omega)
      cases hsg:x.secret with
      | true =>
        have es:secT x=[⟨#[115,101,99,114,101,116]⟩]:=by unfold secT;rw [if_pos hsg]
        rw [es] at hins
        have hP2:=PartsOK.snoc hP1 (s:=⟨#[115,101,99,114,101,116]⟩) (Nat.le_of_ble_eq_true rfl)
        have hLen2:(headT x++(readsS x).map argT++[⟨#[43]⟩++itoaS x.off]).length+1≤8000000000000:=by have:=hP1.1;omega
        repeat (first|((with_reducible apply W.condT);kernel_rfl;exact congrArg (fun b=>some (Value.bool b)) hsg)|((with_reducible apply (RS.pushStr (h0:=B0)));(iterate 4 exact rfl);exact hw0;exact hR1;exact (fun B' a=>(a.loc 0 (by decide:(0:Nat) < 1)).trans rfl);exact hLen2;intro r1 H1 π1 s1 hR1 hr1 ho1)|((with_reducible apply (RS.callA (g0:=42)));(iterate 3 exact rfl);exact fun B' hB'=>hJ _ _ _ B' (by first|exact hR1|exact hRow) hB'.bdom hB'.oldH (by first|exact ⟨by have:=hP2.1;omega,hP2.2⟩|exact ⟨by have:=hP1.1;omega,hP1.2⟩|exact ⟨by have:=hP0.1;omega,hP0.2⟩))|((with_reducible apply RS.strAdd);(iterate 4 exact rfl);((try simp only [ByteArray.size_append]);simp only [ByteArray.size,List.size_toArray,List.length_cons,List.length_nil];omega))|((with_reducible apply RS.load1B);(iterate 3 exact rfl);first|exact hX;exact hXn;exact rfl|exact (hR1.old.up a0.dom _ _ hX0);exact (s1.dom _ _ (hR1.old.up a0.dom _ _ hX0));exact rfl)|((with_reducible apply (RS.callA (g0:=66)));(iterate 3 exact rfl);exact fun B' hB'=>fmt10_tf _ hx.off B' (hgB.up fun i b hb=>hB'.up i b hb))|((with_reducible apply RS.buildSlice);iterate 8 exact rfl)|((with_reducible apply (RS.pushStr (h0:=B0)));(iterate 4 exact rfl);exact hw0;exact hRow;exact (fun B' a=>(a.loc 0 (by decide:(0:Nat) < 1)).trans rfl);exact hLen;intro r1 H1 π1 s1 hR1 hr1 ho1)|((with_reducible first|apply RS.move|apply RS.assign|apply RS.fieldAddr);iterate 3 exact rfl)|((with_reducible apply RS.cmpT);(iterate 4 exact rfl);(simp only [cmpP];omega))|((with_reducible apply RS.cmpF);(iterate 4 exact rfl);(simp only [cmpN];omega))|((with_reducible apply RS.nil);exact mixed;kernel_rfl)|(with_reducible first|apply W.seq|apply W.exit|apply W.ret|apply thenK_n|apply thenK_e|apply roundN_e)|((with_reducible apply W.reg);kernel_rfl)|((with_reducible apply W.condT);kernel_rfl;exact rfl)|((with_reducible apply W.condF);kernel_rfl;exact rfl)|((with_reducible apply blockK_hit);exact rfl))
        exact endsK_ret _ (.cons (.tmp rfl) .nil) fun B' y=>⟨by rw [hins];rfl,fun j x hj=>y.up _ _ (hR1.old.up a0.dom _ _ (a0.up _ _ hj))⟩
      | false =>
        have es:secT x=[]:=by unfold secT;rw [if_neg (by rw [hsg];decide)]
        rw [es,List.append_nil] at hins
        repeat (first|((with_reducible apply W.condF);kernel_rfl;exact congrArg (fun b=>some (Value.bool b)) hsg)|((with_reducible apply (RS.callA (g0:=42)));(iterate 3 exact rfl);exact fun B' hB'=>hJ _ _ _ B' (by first|exact hR1|exact hRow) hB'.bdom hB'.oldH (by first|exact ⟨by have:=hP2.1;omega,hP2.2⟩|exact ⟨by have:=hP1.1;omega,hP1.2⟩|exact ⟨by have:=hP0.1;omega,hP0.2⟩))|((with_reducible apply RS.strAdd);(iterate 4 exact rfl);((try simp only [ByteArray.size_append]);simp only [ByteArray.size,List.size_toArray,List.length_cons,List.length_nil];omega))|((with_reducible apply RS.load1B);(iterate 3 exact rfl);first|exact hX;exact hXn;exact rfl|exact (hR1.old.up a0.dom _ _ hX0);exact (s1.dom _ _ (hR1.old.up a0.dom _ _ hX0));exact rfl)|((with_reducible apply (RS.callA (g0:=66)));(iterate 3 exact rfl);exact fun B' hB'=>fmt10_tf _ hx.off B' (hgB.up fun i b hb=>hB'.up i b hb))|((with_reducible apply RS.buildSlice);iterate 8 exact rfl)|((with_reducible apply (RS.pushStr (h0:=B0)));(iterate 4 exact rfl);exact hw0;exact hRow;exact (fun B' a=>(a.loc 0 (by decide:(0:Nat) < 1)).trans rfl);exact hLen;intro r1 H1 π1 s1 hR1 hr1 ho1)|((with_reducible first|apply RS.move|apply RS.assign|apply RS.fieldAddr);iterate 3 exact rfl)|((with_reducible apply RS.cmpT);(iterate 4 exact rfl);(simp only [cmpP];omega))|((with_reducible apply RS.cmpF);(iterate 4 exact rfl);(simp only [cmpN];omega))|((with_reducible apply RS.nil);exact mixed;kernel_rfl)|(with_reducible first|apply W.seq|apply W.exit|apply W.ret|apply W.skip|apply thenK_n|apply thenK_e|apply roundN_e)|((with_reducible apply W.reg);kernel_rfl)|((with_reducible apply W.condT);kernel_rfl;exact rfl)|((with_reducible apply W.condF);kernel_rfl;exact rfl)|((with_reducible apply blockK_hit);exact rfl))
        exact endsK_ret _ (.cons (.tmp rfl) .nil) fun B' y=>⟨by rw [hins];rfl,fun j x hj=>y.up _ _ (hR1.old.up a0.dom _ _ (a0.up _ _ hj))⟩
end Go.Proofs.YtjhloakacicdiaaDoor
namespace Go.Proofs.YtjhloakacicdiaaDoor
open Go.RowKit
def RoomAt (B b K:Nat) (bs:List Value) (w:World):Prop :=
  B≤b∧∃ g cap cur,w.heap[b]?=some (.cells #[.pointer (some ⟨b,0,none⟩),.slice (some ⟨g,0,none⟩) bs.length cap] 120 (0,0))∧B≤g∧g≠b∧w.heap[g]?=some (.cells cur 5 (0,0))∧bs.length≤cap∧K≤cap∧cap≤maxLen∧cur.size=cap∧cur.toList.take bs.length=bs
theorem RoomAt.builder {B b K:Nat} {bs:List Value} {w:World} (h:RoomAt B b K bs w):Lib.BuilderAt 120 5 B b (.pointer (some ⟨b,0,none⟩)) bs w:=by
  obtain ⟨hB,g,cap,cur,h1,h2,h3,h4,h5,h6,h7,h8,h9⟩:=h
  refine ⟨hB,_,h1,⟨by simp,.inr ⟨g,cap,cur,rfl,h2,h4,h5,h7,by simpa using h8,by simpa using h9⟩⟩,?_⟩
  simp [Value.ownBlock,h3]
theorem RoomAt.of {B b K:Nat} {w:World} {p:Option Addr} {cap0:Nat} (h:Lib.BuilderAt 120 5 B b (.pointer (some ⟨b,0,none⟩)) [] w) (hc:w.cell? ⟨b,1,none⟩=some (.slice p 0 cap0)) (hK:K≤cap0) (h0:0 < K):RoomAt B b K [] w:=by
  obtain ⟨hB,v,hbk,hown,hne⟩:=h
  have c1:w.cell? ⟨b,1,none⟩=some v:=by rw [Lib.cell_of_heap hbk];rfl
  rw [hc] at c1
  injection c1 with c1
  rcases hown.2 with ⟨hv,_⟩|⟨g,cap,cur,hv,g1,g2,g3,g4,g5,g6⟩
  · rw [hv] at c1
    injection c1 with _ _ e
    omega
  · rw [hv] at c1 hbk hne
    injection c1 with _ _ e
    subst e
    refine ⟨hB,g,cap0,cur,hbk,g1,?_,g2,by simp,hK,g4,by simpa using g5,by simp⟩
    intro e
    subst e
    exact hne rfl
theorem wpList_room {P:Program} {w:World} {ops:Array Oper} {rest:List Oper} {o:Oper} {a:Act} {Q:Exit→Act→World→Prop} (hgd:o.guard=none) (sl x:Operand) (t u:TypeId)
    (ho:o.op=.call { callee:=.builtin .append,args:=#[sl,x],argTypes:=#[t,u] }) (e:TypeId) (i:TypeInfo) (ht:P.underlying t=some (.slice e)) (hu:P.underlying u=some .string) (hi:P.info? e=some i) (hsize:i.size=1)
    (g n cap:Nat) (cur:Array Value) (hs:a.eval sl=.slice (some ⟨g,0,none⟩) n cap) (hg:w.heap[g]?=some (.cells cur e (0,0))) (s:ByteArray) (hx:a.eval x=.string s) (hroom:n+s.size≤cap) (hfit:n+s.size≤cur.size)
    (h:∀ w',Hid (w'=w.setRow g (cur.toList.take n++Lib.strCells s++cur.toList.drop (n+s.size)).toArray)→wpList P ops Q rest (a.put o.dst (.slice (some ⟨g,0,none⟩) (n+s.size) cap)) w'):wpList P ops Q (o::rest) a w:=by
  refine wpList_plain hgd fun K hK=>?_
  have hr:=Lib.run_append_room_string (P:=P) w t u o.type e i ht hu hi hsize g n cap cur hg s hroom hfit
  unfold Oper.wp execOp
  simp only [ho,resolve,invoke,builtin,Sem.run_bind,Sem.run_pure,Result.andThen_ok,List.map_toArray,List.map_cons,List.map_nil,hs,hx,hr]
  exact hK _ _ (h _ (Lib.hid rfl))
set_option maxHeartbeats 2000000 in
set_option maxRecDepth 100000 in
theorem ws_room (B b K:Nat) (bs:List Value) (s:ByteArray) (w:World) (h:RoomAt B b K bs w) (hl:bs.length+s.size≤K) :
    Calls Tryd.prog 68 #[.pointer (some ⟨b,0,none⟩),.string s] w fun e w'=>e=.returned (.tuple #[.int .i64 s.size,.nilIface])∧RoomAt B b K (bs++Lib.strCells s) w'∧Below B w w':=by
  obtain ⟨i0,hi,hz0,hz1,hz2⟩:=info_parts Tryd.Builder_Extra_156.infoByte
  obtain ⟨hB,g,cap,cur,h1,h2,h3,h4,h5,h6,h7,h8,h9⟩:=h
  have c0:w.cell? ⟨b,0,none⟩=some (.pointer (some ⟨b,0,none⟩)):=by rw [Lib.cell_of_heap h1];rfl
  have c1:w.cell? ⟨b,1,none⟩=some (.slice (some ⟨g,0,none⟩) bs.length cap):=by rw [Lib.cell_of_heap h1];rfl
  go_enter Tryd.func68,Tryd.ntmps68
  go_wp2_with fail
  refine (Any.Builder_copyCheck_used { Tryd.lays156 with } Tryd.Builder_Extra_156.toX72 b _ c0).mono ?_
  rintro e w1 ⟨rfl,rfl⟩
  go_wp2_with (at_builtin;refine wpList_room rfl _ _ 28 9 rfl 5 i0 Tryd.underlying28 Tryd.underlying9 hi hz1 g bs.length cap cur rfl h4 s rfl (by omega) (by omega) ?_)
  intro w2 hw2
  have hw2:=hw2.out
  have hb2:=(setRow_other w1 g b (bs++(Lib.strCells s++cur.toList.drop (bs.length+s.size))).toArray (Ne.symm h3)).trans h1
  have hg2:=setRow_heap w1 g cur (bs++(Lib.strCells s++cur.toList.drop (bs.length+s.size))).toArray _ _ h4
  have hcs:((bs++(Lib.strCells s++cur.toList.drop (bs.length+s.size))).toArray).size=cap:=by
    simp only [List.size_toArray,List.length_append,List.length_drop,Array.length_toList,Lib.strCells_length]
    omega
  have htk:((bs++(Lib.strCells s++cur.toList.drop (bs.length+s.size))).toArray).toList.take (bs++Lib.strCells s).length=bs++Lib.strCells s:=by
    rw [← List.append_assoc]
    exact List.take_left
  have hbl:Below B w1 (w1.setRow g (bs++(Lib.strCells s++cur.toList.drop (bs.length+s.size))).toArray):=⟨rfl,rfl,rfl,by simp,fun k hk=>setRow_other w1 g k _ (by omega)⟩
  rw [← hw2] at hb2 hg2 hbl
  clear hw2
  generalize (bs++(Lib.strCells s++cur.toList.drop (bs.length+s.size))).toArray=cur2 at *
  have d0:w2.cell? ⟨b,0,none⟩=some (.pointer (some ⟨b,0,none⟩)):=by rw [Lib.cell_of_heap hb2];rfl
  have d1:w2.cell? ⟨b,1,none⟩=some (.slice (some ⟨g,0,none⟩) bs.length cap):=by rw [Lib.cell_of_heap hb2];rfl
  have f1:w2.frozen? ⟨b,1,none⟩=false:=Lib.frozen_of_heap hb2 1
  go_wp2
  go_ret2
  refine ⟨rfl,⟨hB,g,cap,cur2,?_,h2,h3,?_,?_,h6,h7,hcs,htk⟩,hbl.setCell (p:=⟨b,1,none⟩) hB _⟩
  · have e:(bs++Lib.strCells s).length=bs.length+s.size:=by rw [List.length_append,Lib.strCells_length]
    rw [e]
    simp [World.setCell,Array.getElem?_modify,hb2]
  · rw [Below.heap_setCell _ _ _ _ h3];exact hg2
  · rw [List.length_append,Lib.strCells_length];omega
end Go.Proofs.YtjhloakacicdiaaDoor
namespace Go.Proofs.YtjhloakacicdiaaDoor
open Go.RowKit
theorem room_text {B b K:Nat} {l:List UInt8} {w:World} (h:RoomAt B b K (Lib.byteCells l) w):Lib.IsBuilder 120 5 B b (Lib.byteCells l) w:=.inr h.builder
def partJ (sep x0:List UInt8) (r:List (List UInt8)) (k:Nat):List UInt8:=x0++Lib.joinTail sep (r.take k)
theorem partJ_succ {sep x0:List UInt8} {r:List (List UInt8)} {k:Nat} {y:List UInt8} (h:r[k]?=some y):partJ sep x0 r (k+1)=partJ sep x0 r k++sep++y:=by
  unfold partJ
  rw [Lib.joinTail_take_succ sep r k y h]
  simp [List.append_assoc]
theorem partJ_le (sep x0:List UInt8) (r:List (List UInt8)) (k:Nat):(partJ sep x0 r k).length≤(Lib.join (x0::r) sep).length:=by
  unfold partJ
  rw [Lib.join_cons,List.length_append,List.length_append]
  have:=Lib.joinTail_take_le sep r k
  omega
theorem partJ_all (sep x0:List UInt8) (r:List (List UInt8)):partJ sep x0 r r.length=Lib.join (x0::r) sep:=by
  unfold partJ
  rw [List.take_length,Lib.join_cons]
set_option maxHeartbeats 4000000 in
set_option maxRecDepth 100000 in
theorem join_big (bk o c:Nat) (x0:ByteArray) (r:List ByteArray) (sep:ByteArray) (w:World) (hcells:∀ (j:Nat) x,(x0::r)[j]?=some x→w.cell? ⟨bk,o+j,none⟩=some (.string x)) (hbk:bk < w.heap.size) (N:Nat) (hN0:N=r.length+1) (h2:2≤N) (hN:N≤140737488355328) (hcap:N≤c)
    (K:Nat) (hK:(Lib.join ((x0::r).map (·.data.toList)) sep.data.toList).length=K) (h0:0 < K) (hlen:K≤281474976710656) :
    Calls Tryd.prog 42 #[.slice (some ⟨bk,o,none⟩) N c,.string sep] w fun e w'=>e=.returned (.string ⟨(Lib.join ((x0::r).map (·.data.toList)) sep.data.toList).toArray⟩)∧Below w.heap.size w w':=by
  have HC:=Lib.hid hcells
  clear hcells
  have hsum:sep.size * (N - 1)+Lib.lens ((x0::r).map (·.data.toList))=K:=by
    rw [← hK,List.map_cons,Lib.join_length,List.length_map,Lib.size_eq,hN0,Nat.add_sub_cancel]
  have HK:=Lib.hid hK
  have HN:=Lib.hid hN0
  clear hK hN0
  have hmul:sep.size * (N - 1)≤281474976710656:=by omega
  generalize hM:sep.size * (N - 1)=M at hsum hmul
  have hcast:((N:Int) - 1)=((N - 1:Nat):Int):=by omega
  have hlt:sep.size < 9223372036854775807 / (N - 1):=by
    have:sep.size+1≤9223372036854775807 / (N - 1):=by
      rw [Nat.le_div_iff_mul_le (by omega),Nat.add_mul,hM]
      omega
    omega
  have hdv:¬ (9223372036854775807 / ((N:Int) - 1)≤(sep.size:Int)):=by
    have e:(9223372036854775807:Int) / ((N - 1:Nat):Int)=((9223372036854775807 / (N - 1):Nat):Int):=IntWalk.up_div (x:=9223372036854775807) rfl rfl
    rw [hcast,e]
    generalize 9223372036854775807 / (N - 1)=q at hlt
    omega
  have hprod:wrap64 ((sep.size:Int) * ((N:Int) - 1))=(M:Int):=by
    have e:(sep.size:Int) * ((N - 1:Nat):Int)=((sep.size * (N - 1):Nat):Int):=IntWalk.up_mul rfl rfl
    rw [hcast,e,hM]
    exact IntWalk.wrap64_in _ ⟨by omega,by omega⟩
  have hM0:sep.size=0→M=0:=fun h=>by rw [← hM,h,Nat.zero_mul]
  clear hlt hcast
  have hne0:((N:Int) == 0)=false:=beq_eq_false_iff_ne.2 (by omega)
  have hne1:((N:Int) == 1)=false:=beq_eq_false_iff_ne.2 (by omega)
  go_enter Tryd.func42,Tryd.ntmps42
  go_wp2_with fail
  all_goals (
    go_loop [5,41] (fun n i=>∃ k:Nat,k≤N∧i=.int .i64 k∧n=.int .i64 ((M+Lib.lens (((x0::r).map (·.data.toList)).take k):Nat):Int)) (fun _ i=>N - (intOf i).toNat)
    case atStart=>exact ⟨0,Nat.zero_le _,rfl,by first|(simp [Lib.lens];done)|(have:=hM0 (by omega);simp [Lib.lens,this])⟩
    case round =>
      obtain ⟨k,hk,rfl,rfl⟩:=hrel
      by_cases hkn:k < N
      · obtain ⟨x,hx⟩:∃ x,(x0::r)[k]?=some x:=⟨_,List.getElem?_eq_getElem (by rw [List.length_cons,← HN.out];exact hkn)⟩
        have hc:=HC.out k x hx
        have hstep:=Lib.lens_take_succ ((x0::r).map (·.data.toList)) k x.data.toList (by rw [List.getElem?_map,hx];rfl)
        have hbound:Lib.lens (((x0::r).map (·.data.toList)).take (k+1))≤Lib.lens ((x0::r).map (·.data.toList)):=Lib.lens_take_le _ _
        rw [← Lib.size_eq] at hstep
        generalize hA1:Lib.lens (((x0::r).map (·.data.toList)).take (k+1))=A1 at hstep hbound
        generalize Lib.lens (((x0::r).map (·.data.toList)).take k)=A0 at hstep
        have HA1:=Lib.hid hA1
        clear hA1 hx
        go_wp2
        exact ⟨⟨k+1,by omega,by go_num,by rw [HA1.out];refine congrArg _ ?_;omega⟩,by simp [intOf];omega⟩
      · have hke:k=N:=by omega
        have hall:((x0::r).map (·.data.toList)).take k=(x0::r).map (·.data.toList):=List.take_of_length_le (by rw [List.length_map,List.length_cons,← HN.out,hke];exact Nat.le_refl _)
        rw [hall]
        clear hall
        subst hke
        generalize hT:Lib.lens ((x0::r).map (·.data.toList))=T at hsum
        clear hT
        go_wp2_with fail
        refine (Tryd.Builder_Grow_fresh_cap w.heap.size w.heap.size K _ (Nat.le_refl _) (heap_alloc_new w _) (by simp) (by omega)).mono ?_
        rintro e w1 ⟨rfl,⟨hb,hbel⟩,p,cap,hcell,hroom⟩
        have hB1:Below w.heap.size w w1:=((Below.refl w.heap.size w).alloc (Nat.le_refl _) _).trans hbel
        have hc0:w1.cell? ⟨bk,o,none⟩=some (.string x0):=by
          rw [hB1.cell (p:=⟨bk,o,none⟩) hbk]
          exact HC.out 0 x0 rfl
        have H1:=Lib.hid (RoomAt.of hb hcell hroom h0)
        have Hb1:=Lib.hid hB1
        have hBw1:w.heap.size≤w1.heap.size:=hB1.size
        clear hb hbel hcell hroom hB1
        have hfull:(Lib.join (x0.data.toList::r.map (·.data.toList)) sep.data.toList).length=K:=HK.out
        have Hle:=Lib.hid (fun k=>hfull ▸ partJ_le sep.data.toList x0.data.toList (r.map (·.data.toList)) k:∀ k,(partJ sep.data.toList x0.data.toList (r.map (·.data.toList)) k).length≤K)
        clear hfull
        go_wp2_with fail
        refine (ws_room w.heap.size w.heap.size K [] x0 w1 H1.out (by have:=Hle.out 0;simp [partJ,Lib.joinTail] at this ⊢;omega)).mono ?_
        rintro e w2 ⟨rfl,hr2,hb2⟩
        have hstart:([]:List Value)++Lib.strCells x0=Lib.byteCells (partJ sep.data.toList x0.data.toList (r.map (·.data.toList)) 0):=by
          simp [partJ,Lib.joinTail,Lib.strCells_eq]
        rw [hstart] at hr2
        have H2:=Lib.hid hr2
        have Hb2:=Lib.hid (Hb1.out.trans hb2)
        clear hr2 hb2 hstart
        have hrl:r.length=k - 1:=by have:=HN.out;omega
        go_wp2_with fail
        go_loopw [65] (fun i wr=>∃ k:Nat,k≤r.length∧i=.int .i64 k∧Hid (RoomAt w.heap.size w.heap.size K (Lib.byteCells (partJ sep.data.toList x0.data.toList (r.map (·.data.toList)) k)) wr)∧Hid (Below w.heap.size w wr)) (fun i _=>r.length - (intOf i).toNat)
        case atStart=>exact ⟨0,Nat.zero_le _,rfl,H2,Hb2⟩
        case round =>
          obtain ⟨j,hj,rfl,HR,HW⟩:=hrel
          by_cases hjr:j < r.length
          · obtain ⟨y,hy⟩:∃ y,r[j]?=some y:=⟨r[j],List.getElem?_eq_getElem hjr⟩
            have hcy:wr.cell? ⟨bk,o+1+j,none⟩=some (.string y):=by
              rw [HW.out.cell (p:=⟨bk,o+1+j,none⟩) hbk,show o+1+j=o+(j+1) by omega]
              exact HC.out (j+1) y (by simpa using hy)
            have hpj:=partJ_succ (sep:=sep.data.toList) (x0:=x0.data.toList) (r:=r.map (·.data.toList)) (k:=j) (y:=y.data.toList) (by rw [List.getElem?_map,hy];rfl)
            have hnext:Lib.byteCells (partJ sep.data.toList x0.data.toList (r.map (·.data.toList)) j)++Lib.strCells sep++Lib.strCells y=Lib.byteCells (partJ sep.data.toList x0.data.toList (r.map (·.data.toList)) (j+1)):=by
              rw [hpj,Lib.strCells_eq,Lib.strCells_eq,← Lib.byteCells_append,← Lib.byteCells_append]
            have hl1:=Hle.out (j+1)
            rw [hpj] at hl1
            simp only [List.length_append,← Lib.size_eq] at hl1
            have hl0:(Lib.byteCells (partJ sep.data.toList x0.data.toList (r.map (·.data.toList)) j)).length=(partJ sep.data.toList x0.data.toList (r.map (·.data.toList)) j).length:=Lib.byteCells_length _
            generalize (partJ sep.data.toList x0.data.toList (r.map (·.data.toList)) j).length=J at hl0 hl1
            have Hn:=Lib.hid hnext
            clear hnext hy hpj
            go_wp2_with fail
            refine (ws_room w.heap.size w.heap.size K _ sep wr HR.out (by rw [hl0];omega)).mono ?_
            rintro e w3 ⟨rfl,hr3,hb3⟩
            have H3:=Lib.hid hr3
            have Hb3:=Lib.hid hb3
            clear hr3 hb3
            go_wp2_with fail
            refine (ws_room w.heap.size w.heap.size K _ y w3 H3.out (by rw [List.length_append,hl0,Lib.strCells_length];omega)).mono ?_
            rintro e w4 ⟨rfl,hr4,hb4⟩
            rw [Hn.out] at hr4
            have H4:=Lib.hid hr4
            have Hb4:=Lib.hid ((HW.out.trans Hb3.out).trans hb4)
            clear hr4 hb4
            go_wp2
            exact ⟨⟨j+1,by omega,by go_num,H4,Hb4⟩,by simp [intOf];omega⟩
          · have hje:j=(r.map (·.data.toList)).length:=by rw [List.length_map];omega
            have hroom:=HR.out
            rw [hje,partJ_all] at hroom
            have hBw:w.heap.size≤wr.heap.size:=HW.out.size
            have Hroom:=Lib.hid hroom
            clear hroom hje
            go_wp2_with fail
            refine (Tryd.Builder_String_any w.heap.size w.heap.size _ wr (room_text Hroom.out) hBw).mono ?_
            rintro e w5 ⟨rfl,hb5⟩
            have Hb5:=Lib.hid (HW.out.trans hb5)
            clear hb5
            go_wp2
            go_ret
            exact ⟨rfl,Hb5.out⟩)
end Go.Proofs.YtjhloakacicdiaaDoor
namespace Go.Proofs.YtjhloakacicdiaaDoor
open Go.AH
theorem sjoinB_tf (xs:List ByteArray) (sep:ByteArray) (r:Nat) (h h0:Hp) (hI:RowI h0 r xs h) (h0w:rwM≤h0.n) (hN:xs.length≤140737488355328) (hlen:(Lib.join (xs.map (·.data.toList)) sep.data.toList).length≤281474976710656) :
    TF Tryd.prog 42 ⟨[rowVl 1 r (strL xs),.string sep]⟩ h (.string (linesS xs sep)) h:=by
  by_cases hs:(Lib.join (xs.map (·.data.toList)) sep.data.toList).length≤140737488355328
  · exact sjoinL_tf xs sep r h h0 hI h0w hN hs
  · cases xs with
    | nil=>exact sjoinNone_tf sep 0 h
    | cons a l =>
      have hm:=(hI.row (by simp)).2
      have hb:rwM≤r:=Nat.le_trans h0w (hI.row (by simp)).1
      rw [rowVl_eq,strL_len,if_neg (by simp [strL]),if_neg (by simp [strL])]
      refine TF.of_below (by simp) fun ρ W ho=>?_
      have hf:=ho.fits _ _ hm
      obtain ⟨tail,fr,he,hcap,_⟩:=hf.own hb
      have hc:(a::l).length≤renCap ρ ⟨r,0,none⟩ (capOf 1):=by
        have h1:renCap ρ ⟨r,0,none⟩ (capOf 1)=ρ.cap r:=by
          unfold renCap capOf
          rw [if_neg (by omega)]
          simp
        rw [h1,← hcap]
        simp [strV]
      have hcells:∀ (j:Nat) x,(a::l)[j]?=some x→W.cell? ⟨ρ.loc r,ρ.sh r+j,none⟩=some (.string x):=by
        intro j x hj
        have:=ho.cell (a:=⟨r,j,none⟩) hm rfl (v:=.string x) (by
          rw [List.getElem?_toArray]
          unfold strV
          rw [List.getElem?_map,hj];rfl)
        simpa [renAddr,Nat.add_comm] using this
      cases l with
      | nil =>
        have:Calls Tryd.prog 42 #[.slice (some ⟨ρ.loc r,ρ.sh r,none⟩) 1 (renCap ρ ⟨r,0,none⟩ (capOf 1)),.string sep] W fun e W'=>e=.returned (.string a)∧W'=W:=Any.strings_Join_one Tryd.lays156 Tryd.Builder_Extra_156 (ρ.loc r) (ρ.sh r) (renCap ρ ⟨r,0,none⟩ (capOf 1)) a sep W (by simpa using hcells 0 a rfl)
        refine Calls.mono (R:=fun e W'=>e=.returned (.string a)∧W'=W) (by simpa [renAddr] using this) fun e W' ⟨he,hw⟩=>⟨?_,hw ▸ RowKit.Below.refl _ _⟩
        rw [he]
        unfold linesS
        rw [List.map_cons,List.map_nil,Lib.join_one,Lib.mk_data]
      | cons b l =>
        have:=join_big (ρ.loc r) (ρ.sh r) (renCap ρ ⟨r,0,none⟩ (capOf 1)) a (b::l) sep W hcells hf.lt (l.length+2) rfl (by omega) (by simpa using hN) (by simpa using hc) _ rfl (by omega) hlen
        simpa [renAddr,linesS] using this
end Go.Proofs.YtjhloakacicdiaaDoor
