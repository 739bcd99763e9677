/-
  What the functions that the law reaches compute,told by plain data;it holds of programs that pass the check of right form and are light.
-/
import Derived.Carry
import Derived.ProofKit
import Derived.Test.YtjhloakacicdiaaChecked
import Derived.Test.YtjhloakacicdiaaR1
import Derived.Test.YtjhloakacicdiaaR3
import Derived.Test.YtjhloakacicdiaaR6
import Derived.Test.YtjhloakacicdiaaS2
set_option linter.unusedVariables false
set_option linter.unusedSimpArgs false
namespace Go.Proofs.Ytjhloakacicdiaa
open Go.AH
attribute [local irreducible] W RS
set_option maxRecDepth 100000 in
set_option maxHeartbeats 0 in
theorem FoldNumbers_tf (h:Hp) (p:ProgS) (hok:p.ok) (P1:Option Addr) (d1:Nat) (P2:Option Addr) (d2:Nat) (hfs:SlAt h P1 6 p.funcs (funcRS h)) (hgs:SlAt h P2 4 p.globals (globR h)) :
    TF Try.prog 6 ⟨[.agg ⟨progC p P1 d1 P2 d2⟩]⟩ h (.bool true) h:=by
  refine TF.exact (fn:=Try.f6) (c:=(Try.f6.body.getD .skip)) Try.func6 (by kernel_rfl) Try.ntmps6 (by kernel_rfl) (fun s0=>⟨Nat.le_refl _,by simp,fun i b hb=>⟨s0.dom i b hb,s0.bd i b hb⟩⟩) fun π s0=>?_
  conv=>arg 2;whnf
  ((with_reducible apply W.seq);repeat (first|((with_reducible first|apply RS.assign|apply RS.box);iterate 3 exact rfl)|((with_reducible apply RS.nil);exact mixed;kernel_rfl)|((with_reducible apply W.reg);kernel_rfl)|(with_reducible apply thenK_n)))
  refine W.absorbX fun B0 π0 a0=>?_
  have m0:B0.m (π 0)=some ⟨⟨progC p P1 d1 P2 d2⟩,25⟩:=a0.loc 0 (by decide:(0:Nat) < 1)
  generalize π 0=pb at *
  have n0:=a0.dom _ _ m0
  replace hfs:=hfs.mono a0.up fun _ _ h=>funcRS_mono a0.up h
  replace hgs:=hgs.mono a0.up fun _ _ h=>globR_mono a0.up h
  obtain ⟨sb,hsb⟩:∃ sb,(lightP p && rightP p && shortN 0 0 && shortN 0 0)=sb:=⟨_,rfl⟩
  have hsm:∀ B',(∀ i b,B0.m i=some b→B'.m i=some b)→TF Try.prog 8 ⟨[.agg ⟨progC p P1 d1 P2 d2⟩,.agg ⟨[.slice none 0 0,.slice none 0 0]⟩,.agg ⟨[.slice none 0 0,.slice none 0 0]⟩]⟩ B' (.bool sb) B':=by
    intro B' hu
    rw [← hsb]
    exact small_tf p hok B' P1 d1 P2 d2 (hfs.mono hu fun _ _ h=>funcR_mono hu h.r) (hgs.mono hu fun _ _ h=>globR_mono hu h) none 0 0 none 0 0 none 0 0 none 0 0
  cases sb with
  | false =>
    repeat (first|((with_reducible apply (RS.callA (g0:=21)));(iterate 3 exact rfl);exact fun B' hB'=>fit12_tf B')|((with_reducible apply RS.loadNB);(iterate 3 exact rfl);exact m0;exact n0;exact Nat.le_of_ble_eq_true rfl;exact (show takeV 0 4 (progC p P1 d1 P2 d2)=progC p P1 d1 P2 d2 from rfl))|((with_reducible apply (RS.callA (g0:=8)));(iterate 3 exact rfl);exact fun B' hB'=>hsm B' (fun i b hb=>hB'.up i b hb))|((with_reducible first|apply RS.assign|apply RS.not);iterate 3 exact rfl)|((with_reducible apply RS.build);iterate 4 exact rfl)|((with_reducible apply RS.nil);exact mixed;kernel_rfl)|(with_reducible first|apply W.seq|apply W.ret|apply W.skip|apply thenK_n|apply thenK_r)|((with_reducible apply W.reg);kernel_rfl)|((with_reducible apply W.condT);kernel_rfl;exact rfl)|((with_reducible apply W.condF);kernel_rfl;exact rfl))
    exact endsK_ret _ (.cons (.tmp rfl) .nil) fun B' a=>⟨rfl,fun j x hj=>a.up _ _ (a0.up _ _ hj)⟩
  | true =>
    have hlr:lightP p=true∧rightP p=true:=by
      simp only [Bool.and_eq_true] at hsb
      exact hsb.1.1
    have hLF:=light_right hok hlr.1 hlr.2
    have hIn:=right_ins hok hlr.2
    have hnf20:p.funcs.length≤20:=by
      have:=hlr.1
      unfold lightP at this
      simp only [Bool.and_eq_true,decide_eq_true_eq] at this
      exact this.1.1.1.1.1
    have hnf:p.funcs.length≤100000:=by omega
    have hK:∀ f∈p.funcs,(OkL f.regs f.blocks∧InsOK f)∧CopyOK f:=fun f hf=>⟨⟨(hLF f hf).1,hIn f hf⟩,(hLF f hf).2⟩
    repeat (first|((with_reducible apply (RS.callA (g0:=21)));(iterate 3 exact rfl);exact fun B' hB'=>fit12_tf B')|((with_reducible apply RS.loadNB);(iterate 3 exact rfl);exact m0;exact n0;exact Nat.le_of_ble_eq_true rfl;exact (show takeV 0 4 (progC p P1 d1 P2 d2)=progC p P1 d1 P2 d2 from rfl))|((with_reducible apply (RS.callA (g0:=8)));(iterate 3 exact rfl);exact fun B' hB'=>hsm B' (fun i b hb=>hB'.up i b hb))|((with_reducible apply (RS.callEx (g0:=22)));(iterate 3 exact rfl);intro B1 hB1;refine ⟨_,fold_prog_ex p hK hnf B1 pb _ _ _ _ _ (hB1.up _ _ m0) (hfs.mono hB1.up fun _ _ h=>funcRS_mono hB1.up h),?_⟩;rintro v H2 π2 ⟨ob,A,c,fs,rfl,hO,hS,hfl,hR,ho,hlo⟩ sH2 hle2)|((with_reducible first|apply RS.nilCheck|apply RS.move|apply RS.assign|apply RS.not|apply RS.fieldAddr);iterate 3 exact rfl)|((with_reducible apply RS.build);iterate 4 exact rfl)|((with_reducible apply RS.nil);exact mixed;kernel_rfl)|(with_reducible first|apply W.seq|apply W.skip|apply thenK_n)|((with_reducible apply W.reg);kernel_rfl)|((with_reducible apply W.condF);kernel_rfl;exact rfl))
    have old2:Old B0 H2:=hB1.oldH.trans ho
    have hOn:=sH2.dom _ _ hO
    repeat (first|((with_reducible apply RS.load1B);(iterate 3 exact rfl);exact hO;exact hOn;exact rfl)|((with_reducible first|apply RS.move|apply RS.lenSl);iterate 3 exact rfl)|((with_reducible apply RS.nil);exact mixed;kernel_rfl)|(with_reducible first|apply W.block|apply thenK_n))
    refine W.loopN (X:=Nat) (fun i=>[(1,.pointer (some ⟨pb,0,none⟩)),(23,.slice A fs.length c),(24,.int .i64 (fs.length:Int)),(25,.int .i64 (i:Int))]) (fun i B=>i≤fs.length∧Old H2 B) (fun i=>fs.length - i)
      (fun B' a=>⟨0,?_,⟨Nat.zero_le _,a.oldH⟩⟩) ?_
    · (repeat' (first|exact trivial|exact rfl|apply And.intro));done
    rintro i B π3 sB ⟨hi,old⟩
    have hup:=old.up sH2.dom
    by_cases hlt:i < fs.length
    · obtain ⟨f',hf'⟩:∃ f',fs[i]?=some f':=⟨_,List.getElem?_eq_getElem hlt⟩
      obtain ⟨f,hf⟩:∃ f,p.funcs[i]?=some f:=⟨_,List.getElem?_eq_getElem (by omega)⟩
      obtain ⟨hoL,hC⟩:=hLF f (List.mem_of_getElem? hf)
      have hIO:=hIn f (List.mem_of_getElem? hf)
      obtain ⟨bl',hFS,rfl⟩:=hR i f f' hf hf'
      have hN:=fold_numbers hoL.pos hoL.tgt (fun b hb x hx=>(hIO b hb x hx).2.2) hFS
      have hfit:=foldS_fit hoL.pos hoL.tgt (fun b hb x hx=>(hIO b hb x hx).1) hFS
      have hle':bl'.length≤100000:=by have:=hN.len;have:=hoL.len;omega
      have hne':bl'≠[]:=List.length_pos_iff.1 (by have:=hN.len;have:=hoL.pos;omega)
      obtain ⟨gb,go,gcs,ge,rfl,hG0,hGl,B1',e1,B2,e2,B3,e3,sec,hGv,hsec,hsS,hsL,hsB⟩:=hS.get i _ hf'
      have hsB:SlAt H2 B3 9 bl' (blockR H2):=hsB
      have hG:=hup _ _ hG0
      have hGn:=sB.dom _ _ hG
      replace hsB:=hsB.mono hup fun _ _ h=>blockR_mono hup h
      ((with_reducible apply W.seq);repeat (first|((with_reducible apply RS.cmpT);(iterate 4 exact rfl);(simp only [cmpP];omega))|((with_reducible apply RS.nil);exact mixed;kernel_rfl)|((with_reducible apply W.reg);kernel_rfl)|(with_reducible apply thenK_n)))
      ((with_reducible apply W.seq);repeat (first|(with_reducible first|apply W.skip|apply thenK_n)|((with_reducible apply W.condT);kernel_rfl;exact rfl)))
      ((with_reducible apply W.seq);repeat (first|(with_reducible apply W.block)))
      ((with_reducible apply W.seq);((with_reducible apply W.reg);kernel_rfl);repeat (first|((with_reducible apply RS.indexAddrS);(iterate 5 exact rfl);omega)|((with_reducible apply RS.loadNB);(iterate 3 exact rfl);exact hG;exact hGn;exact hGl;exact hGv)|((with_reducible first|apply RS.move|apply RS.assign);iterate 3 exact rfl)|((with_reducible apply RS.store);(iterate 5 exact rfl);exact Nat.le_of_ble_eq_true rfl;iterate 3 exact rfl)|((with_reducible apply RS.alloc);iterate 2 exact rfl)|((with_reducible apply RS.nil);exact mixed;kernel_rfl)));(with_reducible apply thenK_n)
      refine W.absorbX fun C π4 a4=>?_
      have hq:C.m (π3 0)=some ⟨⟨funcC { f with blocks:=bl' } B1' e1 B2 e2 B3 e3⟩,35⟩:=a4.loc 0 (by decide:(0:Nat) < 1)
      generalize π3 0=q at *
      have hqn:=a4.dom _ _ hq
      replace hsB:=hsB.mono a4.up fun _ _ h=>blockR_mono a4.up h
      have hfat:FAt C q f.regs B3 e3 bl':=⟨⟨_,hq,rfl,rfl⟩,hsB⟩
      repeat (first|((with_reducible apply (RS.callEx (g0:=11)));(iterate 3 exact rfl);intro B8 hB8;refine ⟨_,reached_ex q f.regs B3 e3 bl' hne' (by omega) hN.tgt B8 (hfat.up hB8.up),?_⟩;rintro v H9 π9 ⟨Ar,cr,rfl,hs9,ho9,hn9⟩ sH9 hle9)|((with_reducible first|apply RS.assign|apply RS.fieldAddr);iterate 3 exact rfl)|((with_reducible apply RS.nil);exact mixed;kernel_rfl)|(with_reducible first|apply W.seq|apply thenK_n)|((with_reducible apply W.reg);kernel_rfl))
      have o9:Old C H9:=hB8.oldH.trans ho9
      have hq9:=o9.up a4.dom _ _ hq
      have hq9n:=sH9.dom _ _ hq9
      have hrl:(reachedS bl').length≤1000000000:=by rw [reachedS_len];omega
      have old9:Old H2 H9:=(old.trans a4.oldH).trans o9
      have up29:=old9.up sH2.dom
      have hsB9:=hsB.mono (o9.up a4.dom) fun _ _ h=>blockR_mono (o9.up a4.dom) h
      obtain ⟨og,oo,ocs,oe,rfl,hU0,hUl,Q1,k1,Q2,k2,Q3,k3,osec,hUv,_,_,_,hUB⟩:=hfs.get i f hf
      have hU5:ocs[oo+i * 6+5]?=some (.slice Q3 f.blocks.length k3):=take_nth hUv (j:=5) rfl
      have hbln:=hN.len
      repeat (first|((with_reducible apply RS.load1B);(iterate 3 exact rfl);exact hq9;exact hq9n;exact rfl)|((with_reducible first|apply RS.move|apply RS.lenSl);iterate 3 exact rfl)|((with_reducible apply RS.nil);exact mixed;kernel_rfl)|(with_reducible first|apply W.block|apply thenK_n))
      refine W.loopN (X:=Nat) (fun j=>[(1,.pointer (some ⟨pb,0,none⟩)),(4,.int .i64 (i:Int)),(6,.slice Ar (reachedS bl').length cr),(32,.slice B3 bl'.length e3),(33,.int .i64 (bl'.length:Int)),(34,.int .i64 (j:Int)),(23,.slice (some ⟨gb,go,none⟩) fs.length c),(24,.int .i64 (fs.length:Int)),(25,.int .i64 (i:Int))]) (fun j E=>j≤bl'.length∧Old H9 E) (fun j=>bl'.length - j)
        (fun B' a=>⟨0,?_,⟨Nat.zero_le _,a.oldH⟩⟩) ?_
      · (repeat' (first|exact trivial|exact rfl|apply And.intro));done
      rintro j E π5 sE ⟨hj,oldE⟩
      by_cases hjl:j < bl'.length
      · obtain ⟨x,hx⟩:∃ x,bl'[j]?=some x:=⟨_,List.getElem?_eq_getElem hjl⟩
        obtain ⟨y,hy⟩:∃ y,f.blocks[j]?=some y:=⟨_,List.getElem?_eq_getElem (by omega)⟩
        have hxy:=hN.ins j y x hy hx
        have hpl:=hN.plain j x hx
        have hfx:=hfit x (List.mem_of_getElem? hx)
        have upE:=oldE.up sH9.dom
        obtain ⟨xb,xo,xcs,xe,hA,hX0,hXl,X1,y1,hXv,hXI⟩:=hsB9.get j x hx
        subst hA
        have hX:=upE _ _ hX0
        have hXn:=sE.dom _ _ hX
        replace hXI:=hXI.mono upE fun _ _ h=>insR_mono upE h
        obtain ⟨vb,vo,vcs,ve,rfl,hV0',hVl,V1,w1,hVv,_⟩:=hUB.get j y hy
        have hV0:vcs[vo+j * 9+0]?=some (.slice V1 y.ins.length w1):=take_nth hVv (j:=0) rfl
        have up0E:=(((old2.trans old9).trans oldE).up a0.dom)
        have hV:=up0E _ _ hV0'
        have hVn:=sE.dom _ _ hV
        have hU:=up0E _ _ hU0
        have hUn:=sE.dom _ _ hU
        have m9:=up0E _ _ m0
        have n9:=sE.dom _ _ m9
        have hjf:fitI (j:Int):=by unfold fitI;omega
        ((with_reducible apply W.seq);repeat (first|((with_reducible apply RS.cmpT);(iterate 4 exact rfl);(simp only [cmpP];omega))|((with_reducible apply RS.nil);exact mixed;kernel_rfl)|((with_reducible apply W.reg);kernel_rfl)|(with_reducible apply thenK_n)))
        ((with_reducible apply W.seq);repeat (first|(with_reducible first|apply W.skip|apply thenK_n)|((with_reducible apply W.condT);kernel_rfl;exact rfl)))
        ((with_reducible apply W.seq);repeat (first|(with_reducible apply W.block)))
        ((with_reducible apply W.seq);((with_reducible apply W.reg);kernel_rfl);repeat (first|((with_reducible apply RS.indexAddrS);(iterate 5 exact rfl);omega)|((with_reducible apply RS.loadNB);(iterate 3 exact rfl);exact hX;exact hXn;exact hXl;exact hXv)|((with_reducible first|apply RS.move|apply RS.assign);iterate 3 exact rfl)|((with_reducible apply RS.store);(iterate 5 exact rfl);exact Nat.le_of_ble_eq_true rfl;iterate 3 exact rfl)|((with_reducible apply RS.alloc);iterate 2 exact rfl)|((with_reducible apply RS.nil);exact mixed;kernel_rfl)));(with_reducible apply thenK_n)
        refine W.absorbX fun G π6 a6=>?_
        have ht:G.m (π5 0)=some ⟨⟨blockC x X1 y1⟩,47⟩:=a6.loc 0 (by decide:(0:Nat) < 1)
        generalize π5 0=tb at *
        have htn:=a6.dom _ _ ht
        replace hV:=a6.up _ _ hV
        replace hVn:=a6.dom _ _ hV
        replace hU:=a6.up _ _ hU
        replace hUn:=a6.dom _ _ hU
        replace m9:=a6.up _ _ m9
        replace n9:=a6.dom _ _ m9
        replace hXI:=hXI.mono a6.up fun _ _ h=>insR_mono a6.up h
        have hs11:=setAt_up (setAt_up hs9 upE) a6.up
        obtain ⟨rv,hrv⟩:∃ rv,hasS (reachedS bl') j=rv:=⟨_,rfl⟩
        have hhas:∀ B',(∀ i b,G.m i=some b→B'.m i=some b)→TF Try.prog 12 ⟨[.slice Ar (reachedS bl').length cr,.int .i64 (j:Int)]⟩ B' (.bool rv) B':=by
          intro B' hu
          rw [← hrv]
          exact has_tf (reachedS bl') Ar cr (j:Int) hjf hrl B' (setAt_up hs11 hu)
        rw [hrv] at hpl
        cases rv with
        | false =>
          repeat (first|((with_reducible apply RS.indexAddrS);(iterate 5 exact rfl);omega)|((with_reducible apply RS.load1B);(iterate 3 exact rfl);first|exact ht;exact htn;exact rfl|exact m9;exact n9;exact rfl|exact hU;exact hUn;exact hU5|exact hV;exact hVn;exact hV0)|((with_reducible apply (RS.callA (g0:=12)));(iterate 3 exact rfl);exact fun B' hB'=>hhas B' (fun i b hb=>hB'.up i b hb))|((with_reducible first|apply RS.move|apply RS.lenSl|apply RS.not|apply RS.fieldAddr);iterate 3 exact rfl)|((with_reducible apply RS.cmpF);(iterate 4 exact rfl);(simp only [cmpN];omega))|((with_reducible apply RS.add1);(iterate 4 exact rfl);omega)|((with_reducible apply RS.nil);exact mixed;kernel_rfl)|(with_reducible first|apply W.seq|apply W.exit|apply W.skip|apply thenK_n|apply thenK_e)|((with_reducible apply W.reg);kernel_rfl)|((with_reducible apply W.condT);kernel_rfl;exact rfl)|((with_reducible apply W.condF);kernel_rfl;exact rfl)|((with_reducible apply blockK_hit);exact rfl))
          refine roundN_n rfl fun B' a=>⟨j+1,?_,⟨by omega,(oldE.trans a6.oldH).trans a.oldH⟩,by omega⟩
          (repeat' (first|exact trivial|exact rfl|apply And.intro));done
        | true =>
          obtain ⟨hterm,hins⟩:=hpl rfl
          have hiy:x.ins.length≤1000000:=by have:=hC.ins y (List.mem_of_getElem? hy);omega
          have oldG:=oldE.trans a6.oldH
          have hcs:¬ x.term.kind=2∨(x.term.kind=2∧¬ x.term.a.reg < 0)∨(x.term.kind=2∧x.term.a.reg < 0∧¬ x.term.b.reg < 0):=by omega
          rcases hcs with hk|⟨hk,ha⟩|⟨hk,ha,hb⟩
          all_goals repeat (first|((with_reducible apply RS.indexAddrS);(iterate 5 exact rfl);omega)|((with_reducible apply RS.load1B);(iterate 3 exact rfl);first|exact ht;exact htn;exact rfl|exact m9;exact n9;exact rfl|exact hU;exact hUn;exact hU5|exact hV;exact hVn;exact hV0)|((with_reducible apply (RS.callA (g0:=12)));(iterate 3 exact rfl);exact fun B' hB'=>hhas B' (fun i b hb=>hB'.up i b hb))|((with_reducible first|apply RS.move|apply RS.lenSl|apply RS.not|apply RS.fieldAddr);iterate 3 exact rfl)|((with_reducible apply RS.pickT);iterate 4 exact rfl)|((with_reducible apply RS.pickF);iterate 4 exact rfl)|((with_reducible apply RS.cmpT);(iterate 4 exact rfl);(simp only [cmpP];omega))|((with_reducible apply RS.cmpF);(iterate 4 exact rfl);(simp only [cmpN];omega))|((with_reducible apply RS.skip);iterate 2 exact rfl)|((with_reducible apply RS.nil);exact mixed;kernel_rfl)|(with_reducible first|apply W.seq|apply W.block|apply W.skip|apply thenK_n)|((with_reducible apply W.reg);kernel_rfl)|((with_reducible apply W.condF);kernel_rfl;exact rfl))
          all_goals
            refine W.loopN (X:=Nat) (fun k=>[(1,.pointer (some ⟨pb,0,none⟩)),(4,.int .i64 (i:Int)),(6,.slice Ar (reachedS bl').length cr),(77,.slice X1 x.ins.length y1),(78,.int .i64 (x.ins.length:Int)),(79,.int .i64 (k:Int)),(32,.slice (some ⟨xb,xo,none⟩) bl'.length e3),(33,.int .i64 (bl'.length:Int)),(34,.int .i64 (j:Int)),(23,.slice (some ⟨gb,go,none⟩) fs.length c),(24,.int .i64 (fs.length:Int)),(25,.int .i64 (i:Int))]) (fun k J=>k≤x.ins.length∧Old G J) (fun k=>x.ins.length - k)
              (fun B' a=>⟨0,?_,⟨Nat.zero_le _,a.oldH⟩⟩) ?_
            · (repeat' (first|exact trivial|exact rfl|apply And.intro));done
            rintro k J π7 sJ ⟨hk',oldJ⟩
            by_cases hkl:k < x.ins.length
            · obtain ⟨z,hz⟩:∃ z,x.ins[k]?=some z:=⟨_,List.getElem?_eq_getElem hkl⟩
              have hzm:=List.mem_of_getElem? hz
              have hzp:=hins z hzm
              have hzf:=hfx z hzm
              unfold plainN at hzp
              obtain ⟨tw,htw⟩:∃ tw,twoS z.op=tw:=⟨_,rfl⟩
              have hTw:∀ B',TF Try.prog 23 ⟨[.int .i64 z.op]⟩ B' (.bool tw) B':=fun B'=>by rw [← htw];exact two_tf z.op B'
              obtain ⟨rk,hrk⟩:∃ rk,reckonS z.op z.a.num z.b.num=rk:=⟨_,rfl⟩
              have hRk:∀ B',TF Try.prog 24 ⟨[.int .i64 z.op,.int .i64 z.a.num,.int .i64 z.b.num]⟩ B' (pairV rk) B':=fun B'=>by rw [← hrk];exact reckon_tf z.op z.a.num z.b.num hzf.1 hzf.2 B'
              rw [htw,hrk] at hzp
              simp only [Bool.or_eq_false_iff] at hzp
              obtain ⟨hz1,hz2⟩:=hzp
              have hz1:¬ ((z.op=2∨z.op=22)∧z.a.reg < 0):=by simpa using hz1
              obtain ⟨rn,rb⟩:=rk
              obtain ⟨zb,zo,zcs,ze,hA,hI0,hIl,Z1,w2,hIv,_⟩:=hXI.get k z hz
              have hA':=hA
              subst hA'
              have hI:=oldJ.up a6.dom _ _ hI0
              have hIn':=sJ.dom _ _ hI
              ((with_reducible apply W.seq);repeat (first|((with_reducible apply RS.cmpT);(iterate 4 exact rfl);(simp only [cmpP];omega))|((with_reducible apply RS.nil);exact mixed;kernel_rfl)|((with_reducible apply W.reg);kernel_rfl)|(with_reducible apply thenK_n)))
              ((with_reducible apply W.seq);repeat (first|(with_reducible first|apply W.skip|apply thenK_n)|((with_reducible apply W.condT);kernel_rfl;exact rfl)))
              ((with_reducible apply W.seq);repeat (first|(with_reducible apply W.block)))
              ((with_reducible apply W.seq);((with_reducible apply W.reg);kernel_rfl);repeat (first|((with_reducible apply RS.indexAddrS);(iterate 5 exact rfl);omega)|((with_reducible apply RS.loadNB);(iterate 3 exact rfl);exact hI;exact hIn';exact hIl;exact hIv)|((with_reducible apply RS.store);(iterate 5 exact rfl);exact Nat.le_of_ble_eq_true rfl;iterate 3 exact rfl)|((with_reducible apply RS.alloc);iterate 2 exact rfl)|((with_reducible apply RS.nil);exact mixed;kernel_rfl)));(with_reducible apply thenK_n)
              refine W.absorbX fun L π8 a8=>?_
              have hx:L.m (π7 0)=some ⟨⟨insC z Z1 w2⟩,64⟩:=a8.loc 0 (by decide:(0:Nat) < 1)
              generalize π7 0=zq at *
              have hxn:=a8.dom _ _ hx
              have hop:(z.op=2∧¬ z.a.reg < 0)∨(¬ z.op=2∧z.op=22∧¬ z.a.reg < 0)∨(¬ z.op=2∧¬ z.op=22):=by omega
              rcases hop with ⟨h2,ha⟩|⟨h2,h22,ha⟩|⟨h2,h22⟩
              · have:tw=false:=by rw [← htw,h2];rfl
                subst this
                repeat (first|((with_reducible apply RS.load1B);(iterate 3 exact rfl);exact hx;exact hxn;exact rfl)|((with_reducible apply (RS.callA (g0:=23)));(iterate 3 exact rfl);exact fun B' _=>hTw B')|((with_reducible first|apply RS.move|apply RS.assign|apply RS.fieldAddr);iterate 3 exact rfl)|((with_reducible apply RS.pickT);iterate 4 exact rfl)|((with_reducible apply RS.pickF);iterate 4 exact rfl)|((with_reducible apply RS.cmpT);(iterate 4 exact rfl);(simp only [cmpP];omega))|((with_reducible apply RS.cmpF);(iterate 4 exact rfl);(simp only [cmpN];omega))|((with_reducible apply RS.add1);(iterate 4 exact rfl);omega)|((with_reducible apply RS.skip);iterate 2 exact rfl)|((with_reducible apply RS.nil);exact mixed;kernel_rfl)|(with_reducible first|apply W.seq|apply W.skip|apply thenK_n|apply blockK_n)|((with_reducible apply W.reg);kernel_rfl)|((with_reducible apply W.condF);kernel_rfl;exact rfl))
                refine roundN_n rfl fun B' a=>⟨k+1,?_,⟨by omega,(oldJ.trans a8.oldH).trans a.oldH⟩,by omega⟩
                (repeat' (first|exact trivial|exact rfl|apply And.intro));done
              · have:tw=false:=by rw [← htw,h22];rfl
                subst this
                repeat (first|((with_reducible apply RS.load1B);(iterate 3 exact rfl);exact hx;exact hxn;exact rfl)|((with_reducible apply (RS.callA (g0:=23)));(iterate 3 exact rfl);exact fun B' _=>hTw B')|((with_reducible first|apply RS.move|apply RS.assign|apply RS.fieldAddr);iterate 3 exact rfl)|((with_reducible apply RS.pickT);iterate 4 exact rfl)|((with_reducible apply RS.pickF);iterate 4 exact rfl)|((with_reducible apply RS.cmpT);(iterate 4 exact rfl);(simp only [cmpP];omega))|((with_reducible apply RS.cmpF);(iterate 4 exact rfl);(simp only [cmpN];omega))|((with_reducible apply RS.add1);(iterate 4 exact rfl);omega)|((with_reducible apply RS.skip);iterate 2 exact rfl)|((with_reducible apply RS.nil);exact mixed;kernel_rfl)|(with_reducible first|apply W.seq|apply W.skip|apply thenK_n|apply blockK_n)|((with_reducible apply W.reg);kernel_rfl)|((with_reducible apply W.condF);kernel_rfl;exact rfl))
                refine roundN_n rfl fun B' a=>⟨k+1,?_,⟨by omega,(oldJ.trans a8.oldH).trans a.oldH⟩,by omega⟩
                (repeat' (first|exact trivial|exact rfl|apply And.intro));done
              · cases tw with
                | false =>
                  repeat (first|((with_reducible apply RS.load1B);(iterate 3 exact rfl);exact hx;exact hxn;exact rfl)|((with_reducible apply (RS.callA (g0:=23)));(iterate 3 exact rfl);exact fun B' _=>hTw B')|((with_reducible first|apply RS.move|apply RS.assign|apply RS.fieldAddr);iterate 3 exact rfl)|((with_reducible apply RS.pickF);iterate 4 exact rfl)|((with_reducible apply RS.cmpF);(iterate 4 exact rfl);(simp only [cmpN];omega))|((with_reducible apply RS.add1);(iterate 4 exact rfl);omega)|((with_reducible apply RS.skip);iterate 2 exact rfl)|((with_reducible apply RS.nil);exact mixed;kernel_rfl)|(with_reducible first|apply W.seq|apply W.skip|apply thenK_n|apply blockK_n)|((with_reducible apply W.reg);kernel_rfl)|((with_reducible apply W.condF);kernel_rfl;exact rfl))
                  refine roundN_n rfl fun B' a=>⟨k+1,?_,⟨by omega,(oldJ.trans a8.oldH).trans a.oldH⟩,by omega⟩
                  (repeat' (first|exact trivial|exact rfl|apply And.intro));done
                | true =>
                  by_cases ha:z.a.reg < 0
                  · by_cases hb:z.b.reg < 0
                    · have:rb=false:=by simpa [ha,hb] using hz2
                      subst this
                      repeat (first|((with_reducible apply RS.load1B);(iterate 3 exact rfl);exact hx;exact hxn;exact rfl)|((with_reducible apply (RS.callA (g0:=23)));(iterate 3 exact rfl);exact fun B' _=>hTw B')|((with_reducible apply (RS.callA (g0:=24)));(iterate 3 exact rfl);exact fun B' _=>hRk B')|((with_reducible first|apply RS.move|apply RS.assign|apply RS.fieldAddr);iterate 3 exact rfl)|((with_reducible apply RS.pickT);iterate 4 exact rfl)|((with_reducible apply RS.pickF);iterate 4 exact rfl)|((with_reducible apply RS.cmpT);(iterate 4 exact rfl);(simp only [cmpP];omega))|((with_reducible apply RS.cmpF);(iterate 4 exact rfl);(simp only [cmpN];omega))|((with_reducible apply RS.add1);(iterate 4 exact rfl);omega)|((with_reducible apply RS.extract);iterate 4 exact rfl)|((with_reducible apply RS.skip);iterate 2 exact rfl)|((with_reducible apply RS.nil);exact mixed;kernel_rfl)|(with_reducible first|apply W.seq|apply W.skip|apply thenK_n|apply blockK_n)|((with_reducible apply W.reg);kernel_rfl)|((with_reducible apply W.condT);kernel_rfl;exact rfl)|((with_reducible apply W.condF);kernel_rfl;exact rfl))
                      refine roundN_n rfl fun B' a=>⟨k+1,?_,⟨by omega,(oldJ.trans a8.oldH).trans a.oldH⟩,by omega⟩
                      (repeat' (first|exact trivial|exact rfl|apply And.intro));done
                    · repeat (first|((with_reducible apply RS.load1B);(iterate 3 exact rfl);exact hx;exact hxn;exact rfl)|((with_reducible apply (RS.callA (g0:=23)));(iterate 3 exact rfl);exact fun B' _=>hTw B')|((with_reducible first|apply RS.move|apply RS.assign|apply RS.fieldAddr);iterate 3 exact rfl)|((with_reducible apply RS.pickT);iterate 4 exact rfl)|((with_reducible apply RS.pickF);iterate 4 exact rfl)|((with_reducible apply RS.cmpT);(iterate 4 exact rfl);(simp only [cmpP];omega))|((with_reducible apply RS.cmpF);(iterate 4 exact rfl);(simp only [cmpN];omega))|((with_reducible apply RS.add1);(iterate 4 exact rfl);omega)|((with_reducible apply RS.skip);iterate 2 exact rfl)|((with_reducible apply RS.nil);exact mixed;kernel_rfl)|(with_reducible first|apply W.seq|apply W.skip|apply thenK_n|apply blockK_n)|((with_reducible apply W.reg);kernel_rfl)|((with_reducible apply W.condF);kernel_rfl;exact rfl))
                      refine roundN_n rfl fun B' a=>⟨k+1,?_,⟨by omega,(oldJ.trans a8.oldH).trans a.oldH⟩,by omega⟩
                      (repeat' (first|exact trivial|exact rfl|apply And.intro));done
                  · repeat (first|((with_reducible apply RS.load1B);(iterate 3 exact rfl);exact hx;exact hxn;exact rfl)|((with_reducible apply (RS.callA (g0:=23)));(iterate 3 exact rfl);exact fun B' _=>hTw B')|((with_reducible first|apply RS.move|apply RS.assign|apply RS.fieldAddr);iterate 3 exact rfl)|((with_reducible apply RS.pickT);iterate 4 exact rfl)|((with_reducible apply RS.pickF);iterate 4 exact rfl)|((with_reducible apply RS.cmpF);(iterate 4 exact rfl);(simp only [cmpN];omega))|((with_reducible apply RS.add1);(iterate 4 exact rfl);omega)|((with_reducible apply RS.skip);iterate 2 exact rfl)|((with_reducible apply RS.nil);exact mixed;kernel_rfl)|(with_reducible first|apply W.seq|apply W.skip|apply thenK_n|apply blockK_n)|((with_reducible apply W.reg);kernel_rfl)|((with_reducible apply W.condF);kernel_rfl;exact rfl))
                    refine roundN_n rfl fun B' a=>⟨k+1,?_,⟨by omega,(oldJ.trans a8.oldH).trans a.oldH⟩,by omega⟩
                    (repeat' (first|exact trivial|exact rfl|apply And.intro));done
            · repeat (first|((with_reducible apply RS.move);iterate 3 exact rfl)|((with_reducible apply RS.cmpF);(iterate 4 exact rfl);(simp only [cmpN];omega))|((with_reducible apply RS.add1);(iterate 4 exact rfl);omega)|((with_reducible apply RS.nil);exact mixed;kernel_rfl)|(with_reducible first|apply W.seq|apply W.exit|apply thenK_n|apply thenK_e|apply blockK_n|apply roundN_e)|((with_reducible apply W.reg);kernel_rfl)|((with_reducible apply W.condF);kernel_rfl;exact rfl)|((with_reducible apply blockK_hit);exact rfl))
              refine roundN_n rfl fun B' a=>⟨j+1,?_,⟨by omega,(oldG.trans oldJ).trans a.oldH⟩,by omega⟩
              (repeat' (first|exact trivial|exact rfl|apply And.intro));done
      · repeat (first|((with_reducible apply RS.move);iterate 3 exact rfl)|((with_reducible apply RS.cmpF);(iterate 4 exact rfl);(simp only [cmpN];omega))|((with_reducible apply RS.add1);(iterate 4 exact rfl);omega)|((with_reducible apply RS.nil);exact mixed;kernel_rfl)|(with_reducible first|apply W.seq|apply W.exit|apply thenK_n|apply thenK_e|apply blockK_n|apply roundN_e)|((with_reducible apply W.reg);kernel_rfl)|((with_reducible apply W.condF);kernel_rfl;exact rfl)|((with_reducible apply blockK_hit);exact rfl))
        refine roundN_n rfl fun B' a=>⟨i+1,?_,⟨by omega,(old9.trans oldE).trans a.oldH⟩,by omega⟩
        (repeat' (first|exact trivial|exact rfl|apply And.intro));done
    · repeat (first|((with_reducible apply RS.assign);iterate 3 exact rfl)|((with_reducible apply RS.cmpF);(iterate 4 exact rfl);(simp only [cmpN];omega))|((with_reducible apply RS.nil);exact mixed;kernel_rfl)|(with_reducible first|apply W.seq|apply W.exit|apply W.ret|apply thenK_n|apply thenK_e|apply roundN_e)|((with_reducible apply W.reg);kernel_rfl)|((with_reducible apply W.condF);kernel_rfl;exact rfl)|((with_reducible apply blockK_hit);exact rfl))
      exact endsK_ret _ (.cons (.tmp rfl) .nil) fun B' a=>⟨rfl,fun j x hj=>a.up _ _ ((old2.trans old).up a0.dom _ _ (a0.up _ _ hj))⟩
end Go.Proofs.Ytjhloakacicdiaa
namespace Go.Proofs.Ytjhloakacicdiaa
open Go.AH
variable {H:Type} {enc:TypeId × Value→H} {G:Nat} {g0:Nat→Option Blk} {W:World}
theorem RowΦ_list {T:Type} {R:Hp→List Value→T→Prop} {K:T→Prop} {w M:Nat} {h:Hp} {acs:List Value} (hr:RowΦ w M (fun h a=>∃ x,R h a x∧K x) h acs) :
    ∃ (A:Option Addr) (c:Nat) (l:List T),acs=[.slice A l.length c]∧SlAt h A w l (R h)∧(∀ x∈l,K x)∧l.length≤M∧l.length≤c∧c < capMark∧(A=none→c=0):=by
  obtain ⟨A,c,accs,e,r,h1,h2,h3,h4⟩:=hr
  have build:∀ al:List (List Value),(∀ a∈al,∃ x,R h a x∧K x)→∃ l:List T,l.length=al.length∧(∀ x∈l,K x)∧∀ (i:Nat) (x:T),l[i]?=some x→∃ a,al[i]?=some a∧R h a x:=by
    intro al
    induction al with
    | nil=>intro _;exact ⟨[],rfl,(fun x hx=>by cases hx),fun i x hx=>by simp at hx⟩
    | cons a al ih =>
      intro ha
      obtain ⟨x,hx,hk⟩:=ha a (by simp)
      obtain ⟨l,q1,q2,q3⟩:=ih fun b hb=>ha b (by simp [hb])
      refine ⟨x::l,by simp [q1],fun y hy=>?_,fun i y hy=>?_⟩
      · rcases List.mem_cons.1 hy with rfl|hy
        · exact hk
        · exact q2 y hy
      · cases i with
        | zero=>simp at hy;subst hy;exact ⟨a,rfl,hx⟩
        | succ i=>simpa using q3 i y (by simpa using hy)
  obtain ⟨l,q1,q2,q3⟩:=build accs fun a ha=>(r.all a ha).1
  refine ⟨A,c,l,by rw [q1];exact e,⟨fun i x hx=>?_⟩,q2,by omega,by omega,h3,h4⟩
  obtain ⟨a,ha,hR⟩:=q3 i x hx
  have ham:=List.mem_of_getElem? ha
  obtain ⟨b,e',hA,hb⟩:=r.at_ (fun hn=>by rw [hn] at ham;cases ham)
  have hwid:∀ x∈accs,x.length=w:=fun x hx=>(r.all x hx).2
  have hi:=(List.getElem?_eq_some_iff.1 ha).1
  refine ⟨b,0,accs.flatten,e',hA,hb,?_,?_⟩
  · rw [flat_len hwid]
    have:(i+1) * w≤accs.length * w:=Nat.mul_le_mul_right _ hi
    rw [Nat.succ_mul] at this;omega
  · have:takeV (0+i * w) w accs.flatten=a:=by
      rw [takeV_eq]
      apply List.ext_getElem?
      intro j
      rw [List.getElem?_take]
      by_cases hj:j < w
      · rw [if_pos hj,List.getElem?_drop,Nat.zero_add,flat_get hwid i j hj,ha];rfl
      · rw [if_neg hj,List.getElem?_eq_none (by rw [hwid a ham];omega)]
    rw [this];exact hR
theorem i64_fit {n:Int} (h1:IntKind.i64.min≤n) (h2:n≤IntKind.i64.max):fitI n:=by
  have e1:IntKind.i64.min=-9223372036854775808:=by decide
  have e2:IntKind.i64.max=9223372036854775807:=by decide
  rw [e1] at h1;rw [e2] at h2
  exact ⟨h1,h2⟩
def intΦ (_:Hp) (acs:List Value):Prop:=∃ n,acs=[.int .i64 n]∧fitI n
theorem D_int {t:TypeId} {cs:List Value} (ht:Try.prog.underlying t=some (.int .i64)) (h:TW enc Try.prog W t cs):D G g0 W cs 0 intΦ:=(D.int ht h).mono (Nat.le_refl _) fun _ _ _ ⟨n,e,h1,h2⟩=>⟨n,e,i64_fit h1 h2⟩
theorem up_int:UpΦ intΦ:=fun _ _ _ _ h=>h
def argΦ (_:Hp) (acs:List Value):Prop:=∃ a,argR acs a∧ArgS.ok a
theorem up_arg:UpΦ argΦ:=fun _ _ _ _ h=>h
theorem D_arg {cs:List Value} (h:TW enc Try.prog W 43 cs):D G g0 W cs 0 argΦ:=by
  obtain ⟨hl,hf⟩:=h.fields (l:=[(3,0,1),(2,1,1)]) (n:=2) (by kernel_rfl) (by kernel_rfl)
  have:=SegD.d (g0:=g0) (G:=G) (off:=0) (cs:=cs) (W:=W) (l:=[(1,0,intΦ),(1,0,intΦ)]) ⟨up_int,D_int (by kernel_rfl) (hf (3,0,1) (by simp)),up_int,D_int (by kernel_rfl) (hf (2,1,1) (by simp)),hl⟩
  refine D.mono this (by simp [segN]) ?_
  rintro H acs _ ⟨_,_,rfl,⟨a,rfl,ha⟩,_,_,rfl,⟨b,rfl,hb⟩,rfl⟩
  exact ⟨⟨a,b⟩,rfl,ha,hb⟩
def argsΦ:Hp→List Value→Prop:=RowΦ 2 reachBytes argΦ
def insΦ (h:Hp) (acs:List Value):Prop:=∃ x,insR h acs x∧InsS.ok x
theorem up_ins:UpΦ insΦ:=fun _ _ _ hm ⟨x,hx,hk⟩=>⟨x,insR_mono hm hx,hk⟩
def boolΦ (_:Hp) (acs:List Value):Prop:=∃ b,acs=[.bool b]
theorem up_bool:UpΦ boolΦ:=fun _ _ _ _ h=>h
def strΦ (_:Hp) (acs:List Value):Prop:=∃ s:ByteArray,acs=[.string s]∧s.size≤reachBytes
theorem up_str:UpΦ strΦ:=fun _ _ _ _ h=>h
theorem D_ins {cs:List Value} (h:TW enc Try.prog W 64 cs):D G g0 W cs 1 insΦ:=by
  obtain ⟨hl,hf⟩:=h.fields (l:=[(3,0,1),(3,1,1),(43,2,2),(43,4,2),(3,6,1),(4,7,1),(4,8,1),(3,9,1),(2,10,1),(62,11,1)]) (n:=12) (by kernel_rfl) (by kernel_rfl)
  have:=SegD.d (g0:=g0) (G:=G) (off:=0) (cs:=cs) (W:=W) (l:=[(1,0,intΦ),(1,0,intΦ),(2,0,argΦ),(2,0,argΦ),(1,0,intΦ),(1,0,boolΦ),(1,0,boolΦ),(1,0,intΦ),(1,0,intΦ),(1,reachBytes * 0+1,argsΦ)])
    ⟨up_int,D_int (by kernel_rfl) (hf (3,0,1) (by simp)),up_int,D_int (by kernel_rfl) (hf (3,1,1) (by simp)),up_arg,D_arg (hf (43,2,2) (by simp)),up_arg,D_arg (hf (43,4,2) (by simp)),up_int,D_int (by kernel_rfl) (hf (3,6,1) (by simp)),up_bool,D.bool (by kernel_rfl) (hf (4,7,1) (by simp)),up_bool,D.bool (by kernel_rfl) (hf (4,8,1) (by simp)),up_int,D_int (by kernel_rfl) (hf (3,9,1) (by simp)),up_int,D_int (by kernel_rfl) (hf (2,10,1) (by simp)),RowΦ.up up_arg,D.row (e:=43) up_arg (by kernel_rfl) (by kernel_rfl) (by decide) (Nat.le_of_ble_eq_true (by kernel_rfl)) (fun c hc=>D_arg hc) (hf (62,11,1) (by simp)),hl⟩
  refine D.mono this (by simp [segN]) ?_
  rintro H acs _ ⟨_,_,rfl,⟨op,rfl,h1⟩,_,_,rfl,⟨dst,rfl,h2⟩,_,_,rfl,⟨a,rfl,h3⟩,_,_,rfl,⟨b,rfl,h4⟩,_,_,rfl,⟨size,rfl,h5⟩,_,_,rfl,⟨sg,rfl⟩,_,_,rfl,⟨sc,rfl⟩,_,_,rfl,⟨ref,rfl,h6⟩,_,_,rfl,⟨off,rfl,h7⟩,_,_,rfl,hr,rfl⟩
  obtain ⟨A,c,l,rfl,hs,hk,hn,_⟩:=RowΦ_list (R:=fun _=>argR) hr
  exact ⟨⟨op,dst,a,b,size,sg,sc,ref,off,l⟩,⟨A,c,rfl,hs⟩,h1,h2,h3,h4,h5,h6,h7,Nat.le_trans hn (by decide),hk⟩
def termΦ (_:Hp) (acs:List Value):Prop:=∃ t,acs=termC t∧TermS.ok t
theorem up_term:UpΦ termΦ:=fun _ _ _ _ h=>h
theorem D_term {cs:List Value} (h:TW enc Try.prog W 45 cs):D G g0 W cs 0 termΦ:=by
  obtain ⟨hl,hf⟩:=h.fields (l:=[(3,0,1),(3,1,1),(43,2,2),(43,4,2),(3,6,1),(3,7,1)]) (n:=8) (by kernel_rfl) (by kernel_rfl)
  have:=SegD.d (g0:=g0) (G:=G) (off:=0) (cs:=cs) (W:=W) (l:=[(1,0,intΦ),(1,0,intΦ),(2,0,argΦ),(2,0,argΦ),(1,0,intΦ),(1,0,intΦ)])
    ⟨up_int,D_int (by kernel_rfl) (hf (3,0,1) (by simp)),up_int,D_int (by kernel_rfl) (hf (3,1,1) (by simp)),up_arg,D_arg (hf (43,2,2) (by simp)),up_arg,D_arg (hf (43,4,2) (by simp)),up_int,D_int (by kernel_rfl) (hf (3,6,1) (by simp)),up_int,D_int (by kernel_rfl) (hf (3,7,1) (by simp)),hl⟩
  refine D.mono this (by simp [segN]) ?_
  rintro H acs _ ⟨_,_,rfl,⟨k,rfl,h1⟩,_,_,rfl,⟨op,rfl,h2⟩,_,_,rfl,⟨a,rfl,h3⟩,_,_,rfl,⟨b,rfl,h4⟩,_,_,rfl,⟨g,rfl,h5⟩,_,_,rfl,⟨e,rfl,h6⟩,rfl⟩
  exact ⟨⟨k,op,a,b,g,e⟩,rfl,h1,h2,h3,h4,h5,h6⟩
def blockΦ (h:Hp) (acs:List Value):Prop:=∃ x,blockR h acs x∧BlockS.ok x
theorem up_block:UpΦ blockΦ:=fun _ _ _ hm ⟨x,hx,hk⟩=>⟨x,blockR_mono hm hx,hk⟩
theorem D_block {cs:List Value} (h:TW enc Try.prog W 47 cs):D G g0 W cs (reachBytes * 1+1) blockΦ:=by
  obtain ⟨hl,hf⟩:=h.fields (l:=[(41,0,1),(45,1,8)]) (n:=9) (by kernel_rfl) (by kernel_rfl)
  have:=SegD.d (g0:=g0) (G:=G) (off:=0) (cs:=cs) (W:=W) (l:=[(1,reachBytes * 1+1,RowΦ 12 reachBytes insΦ),(8,0,termΦ)])
    ⟨RowΦ.up up_ins,D.row (e:=64) up_ins (by kernel_rfl) (by kernel_rfl) (by decide) (Nat.le_of_ble_eq_true (by kernel_rfl)) (fun c hc=>D_ins hc) (hf (41,0,1) (by simp)),up_term,D_term (hf (45,1,8) (by simp)),hl⟩
  refine D.mono this (by simp [segN]) ?_
  rintro H acs _ ⟨_,_,rfl,hr,_,_,rfl,⟨t,rfl,ht⟩,rfl⟩
  obtain ⟨A,c,l,rfl,hs,hk,hn,_⟩:=RowΦ_list (R:=insR) hr
  exact ⟨⟨l,t⟩,⟨A,c,rfl,hs⟩,Nat.le_trans hn (by decide),hk,ht⟩
def funcΦ (h:Hp) (acs:List Value):Prop:=∃ x,funcR h acs x∧FuncS.ok x
def nFunc:Nat:=1+1+(reachBytes * (reachBytes * 1+1)+1)
def byteΦ (_:Hp) (acs:List Value):Prop:=∃ n,byteR acs n∧(0≤n∧n≤255)
theorem up_byte:UpΦ byteΦ:=fun _ _ _ _ h=>h
theorem D_byte {cs:List Value} (h:TW enc Try.prog W 5 cs):D G g0 W cs 0 byteΦ:=(D.int (k:=.u8) (by kernel_rfl) h).mono (Nat.le_refl _) fun _ _ _ ⟨n,e,h1,h2⟩=>by
  have e1:IntKind.u8.min=0:=by decide
  have e2:IntKind.u8.max=255:=by decide
  rw [e1] at h1;rw [e2] at h2
  exact ⟨n,e,h1,h2⟩
def partΦ (h:Hp) (acs:List Value):Prop:=∃ x,partR h acs x∧PartS.ok x
theorem up_part:UpΦ partΦ:=fun _ _ _ hm ⟨x,hx,hk⟩=>⟨x,partR_mono hm hx,hk⟩
theorem D_part {cs:List Value} (h:TW enc Try.prog W 83 cs):D G g0 W cs 1 partΦ:=by
  obtain ⟨hl,hf⟩:=h.fields (l:=[(3,0,1),(28,1,1),(3,2,1)]) (n:=3) (by kernel_rfl) (by kernel_rfl)
  have:=SegD.d (g0:=g0) (G:=G) (off:=0) (cs:=cs) (W:=W) (l:=[(1,0,intΦ),(1,reachBytes * 0+1,RowΦ 1 reachBytes byteΦ),(1,0,intΦ)])
    ⟨up_int,D_int (by kernel_rfl) (hf (3,0,1) (by simp)),RowΦ.up up_byte,D.row (e:=5) up_byte (by kernel_rfl) (by kernel_rfl) (by decide) (Nat.le_of_ble_eq_true (by kernel_rfl)) (fun c hc=>D_byte hc) (hf (28,1,1) (by simp)),up_int,D_int (by kernel_rfl) (hf (3,2,1) (by simp)),hl⟩
  refine D.mono this (by simp [segN]) ?_
  rintro H acs _ ⟨_,_,rfl,⟨k,rfl,h1⟩,_,_,rfl,hr,_,_,rfl,⟨n,rfl,h2⟩,rfl⟩
  obtain ⟨A,c,l,rfl,hs,hk,hn,_⟩:=RowΦ_list (R:=fun _=>byteR) hr
  exact ⟨⟨k,l,n⟩,⟨A,c,rfl,hs⟩,h1,h2,Nat.le_trans hn (by decide),hk⟩
def globΦ (h:Hp) (acs:List Value):Prop:=∃ x,globR h acs x∧GlobS.ok x
theorem up_glob:UpΦ globΦ:=fun _ _ _ hm ⟨x,hx,hk⟩=>⟨x,globR_mono hm hx,hk⟩
theorem D_glob {cs:List Value} (h:TW enc Try.prog W 81 cs):D G g0 W cs (reachBytes * 1+1) globΦ:=by
  obtain ⟨hl,hf⟩:=h.fields (l:=[(9,0,1),(3,1,1),(3,2,1),(79,3,1)]) (n:=4) (by kernel_rfl) (by kernel_rfl)
  have:=SegD.d (g0:=g0) (G:=G) (off:=0) (cs:=cs) (W:=W) (l:=[(1,0,strΦ),(1,0,intΦ),(1,0,intΦ),(1,reachBytes * 1+1,RowΦ 3 reachBytes partΦ)])
    ⟨up_str,D.string (by kernel_rfl) (hf (9,0,1) (by simp)),up_int,D_int (by kernel_rfl) (hf (3,1,1) (by simp)),up_int,D_int (by kernel_rfl) (hf (3,2,1) (by simp)),RowΦ.up up_part,D.row (e:=83) up_part (by kernel_rfl) (by kernel_rfl) (by decide) (Nat.le_of_ble_eq_true (by kernel_rfl)) (fun c hc=>D_part hc) (hf (79,3,1) (by simp)),hl⟩
  refine D.mono this (by simp [segN]) ?_
  rintro H acs _ ⟨_,_,rfl,⟨nm,rfl,_⟩,_,_,rfl,⟨pl,rfl,h1⟩,_,_,rfl,⟨sz,rfl,h2⟩,_,_,rfl,hr,rfl⟩
  obtain ⟨A,c,l,rfl,hs,hk,hn,_⟩:=RowΦ_list (R:=partR) hr
  exact ⟨⟨nm,pl,sz,l⟩,⟨A,c,rfl,hs⟩,h1,h2,Nat.le_trans hn (by decide),hk⟩
def progΦ (h:Hp) (acs:List Value):Prop:=∃ x,progR h acs x∧ProgS.ok x
def nProg:Nat:=reachBytes * nFunc+1+(reachBytes * (reachBytes * 1+1)+1)
end Go.Proofs.Ytjhloakacicdiaa
namespace Go.Proofs.Ytjhloakacicdiaa
open Go.AH
variable {H:Type} {enc:TypeId × Value→H} {G:Nat} {g0:Nat→Option Blk} {W:World}
def boolΨ (_:Hp) (acs:List Value):Prop:=∃ b,boolR acs b∧True
theorem up_boolΨ:UpΦ boolΨ:=fun _ _ _ _ h=>h
theorem D_boolΨ {cs:List Value} (h:TW enc Try.prog W 4 cs):D G g0 W cs 0 boolΨ:=(D.bool (by kernel_rfl) h).mono (Nat.le_refl _) fun _ _ _ ⟨b,e⟩=>⟨b,e,trivial⟩
def funcΨ (h:Hp) (acs:List Value):Prop:=∃ x,funcRS h acs x∧FuncS.ok x
theorem up_funcΨ:UpΦ funcΨ:=fun _ _ _ hm ⟨x,hx,hk⟩=>⟨x,funcRS_mono hm hx,hk⟩
theorem D_funcΨ {cs:List Value} (h:TW enc Try.prog W 35 cs):D G g0 W cs nFunc funcΨ:=by
  obtain ⟨hl,hf⟩:=h.fields (l:=[(9,0,1),(3,1,1),(31,2,1),(3,3,1),(32,4,1),(33,5,1)]) (n:=6) (by kernel_rfl) (by kernel_rfl)
  have:=SegD.d (g0:=g0) (G:=G) (off:=0) (cs:=cs) (W:=W) (l:=[(1,0,strΦ),(1,0,intΦ),(1,reachBytes * 0+1,RowΦ 1 reachBytes boolΨ),(1,0,intΦ),(1,reachBytes * 0+1,RowΦ 1 reachBytes intΦ),(1,reachBytes * (reachBytes * 1+1)+1,RowΦ 9 reachBytes blockΦ)])
    ⟨up_str,D.string (by kernel_rfl) (hf (9,0,1) (by simp)),up_int,D_int (by kernel_rfl) (hf (3,1,1) (by simp)),RowΦ.up up_boolΨ,D.row (e:=4) up_boolΨ (by kernel_rfl) (by kernel_rfl) (by decide) (Nat.le_of_ble_eq_true (by kernel_rfl)) (fun c hc=>D_boolΨ hc) (hf (31,2,1) (by simp)),up_int,D_int (by kernel_rfl) (hf (3,3,1) (by simp)),RowΦ.up up_int,D.row (e:=3) up_int (by kernel_rfl) (by kernel_rfl) (by decide) (Nat.le_of_ble_eq_true (by kernel_rfl)) (fun c hc=>D_int (by kernel_rfl) hc) (hf (32,4,1) (by simp)),RowΦ.up up_block,D.row (e:=47) up_block (by kernel_rfl) (by kernel_rfl) (by decide) (Nat.le_of_ble_eq_true (by kernel_rfl)) (fun c hc=>D_block hc) (hf (33,5,1) (by simp)),hl⟩
  refine D.mono this (by simp [segN,nFunc];omega) ?_
  rintro H acs _ ⟨_,_,rfl,⟨nm,rfl,_⟩,_,_,rfl,⟨pa,rfl,h1⟩,_,_,rfl,hr1,_,_,rfl,⟨rg,rfl,h2⟩,_,_,rfl,hr2,_,_,rfl,hr3,rfl⟩
  obtain ⟨A1,c1,l1,rfl,hs1,_,hn1,_⟩:=RowΦ_list (R:=fun _=>boolR) (K:=fun _=>True) hr1
  obtain ⟨A2,c2,l2,rfl,hs2,hk2,hn2,_⟩:=RowΦ_list (R:=fun _=>intR) (K:=fitI) hr2
  obtain ⟨A3,c3,l3,rfl,hs3,hk3,hn3,_⟩:=RowΦ_list (R:=blockR) hr3
  exact ⟨⟨nm,pa,l1.length,rg,l2,l3⟩,⟨A1,c1,A2,c2,A3,c3,l1,rfl,rfl,hs1,hs2,hs3⟩,h1,h2,Nat.le_trans hn1 (by decide),Nat.le_trans hn2 (by decide),hk2,Nat.le_trans hn3 (by decide),hk3⟩
def progΨ (h:Hp) (acs:List Value):Prop:=∃ p A1 c1 A2 c2,acs=progC p A1 c1 A2 c2∧SlAt h A1 6 p.funcs (funcRS h)∧SlAt h A2 4 p.globals (globR h)∧p.ok
theorem D_progΨ {cs:List Value} (h:TW enc Try.prog W 25 cs):D G g0 W cs nProg progΨ:=by
  obtain ⟨hl,hf⟩:=h.fields (l:=[(22,0,1),(23,1,1),(3,2,1),(3,3,1)]) (n:=4) (by kernel_rfl) (by kernel_rfl)
  have:=SegD.d (g0:=g0) (G:=G) (off:=0) (cs:=cs) (W:=W) (l:=[(1,reachBytes * nFunc+1,RowΦ 6 reachBytes funcΨ),(1,reachBytes * (reachBytes * 1+1)+1,RowΦ 4 reachBytes globΦ),(1,0,intΦ),(1,0,intΦ)])
    ⟨RowΦ.up up_funcΨ,D.row (e:=35) up_funcΨ (by kernel_rfl) (by kernel_rfl) (by decide) (Nat.le_of_ble_eq_true (by kernel_rfl)) (fun c hc=>D_funcΨ hc) (hf (22,0,1) (by simp)),RowΦ.up up_glob,D.row (e:=81) up_glob (by kernel_rfl) (by kernel_rfl) (by decide) (Nat.le_of_ble_eq_true (by kernel_rfl)) (fun c hc=>D_glob hc) (hf (23,1,1) (by simp)),up_int,D_int (by kernel_rfl) (hf (3,2,1) (by simp)),up_int,D_int (by kernel_rfl) (hf (3,3,1) (by simp)),hl⟩
  refine D.mono this (by simp [segN,nProg]) ?_
  rintro H acs _ ⟨_,_,rfl,hr1,_,_,rfl,hr2,_,_,rfl,⟨d,rfl,h1⟩,_,_,rfl,⟨m,rfl,h2⟩,rfl⟩
  obtain ⟨A1,c1,l1,rfl,hs1,hk1,hn1,_⟩:=RowΦ_list (R:=funcRS) hr1
  obtain ⟨A2,c2,l2,rfl,hs2,hk2,hn2,_⟩:=RowΦ_list (R:=globR) hr2
  exact ⟨⟨l1,l2,d,m⟩,A1,c1,A2,c2,rfl,hs1,hs2,Nat.le_trans hn1 (by decide),hk1,Nat.le_trans hn2 (by decide),hk2,h1,h2⟩
end Go.Proofs.Ytjhloakacicdiaa
namespace Go.Proofs.Ytjhloakacicdiaa
open Go.AH Go.ChangeShapes Go.WideShapes Go.ChangeAt Go.RowKit
variable {H:Type} {enc:TypeId × Value→H} {W:World} {G:Nat} {g0:Nat→Option Blk}
theorem trodAll_below {P:Program} (hl:laidOutB P=true) {W W':World} (hb:Below W.heap.size W W'):∀ {ts:List TypeId} {vs:List Value} {ds:List (DataW H)} {ps:List MemPlace},(∀ t∈ts,P.readableRec t=true∧t < P.types.size)→(∀ x∈ps,x.block < W.heap.size)→DataW.TrodAll enc P W 0 (fun _=>true) true ts vs ds ps→DataW.TrodAll enc P W' 0 (fun b=>decide (b < W.heap.size)) true ts vs ds ps:=by
  intro ts
  induction ts with
  | nil =>
    intro vs ds ps _ _ h
    cases vs with
    | nil=>cases ds with
      | nil=>exact h
      | cons d ds=>exact h.elim
    | cons v vs=>exact h.elim
  | cons t ts ih =>
    intro vs ds ps ht hx h
    cases vs with
    | nil=>exact h.elim
    | cons v vs =>
      cases ds with
      | nil=>exact h.elim
      | cons d ds =>
        obtain ⟨p,q,h1,h2,rfl⟩:=h
        exact ⟨p,q,Below.trod hl (ht t (by simp)).1 (ht t (by simp)).2 h1 hb fun x hx'=>hx x (by simp [hx']),ih (fun t ht'=>ht t (by simp [ht'])) (fun x hx'=>hx x (by simp [hx'])) h2,rfl⟩
theorem Try.own:ownKnob Try.prog.godebug=none:=by kernel_rfl
theorem Try.laidOut:laidOutB Try.prog=true:=by kernel_rfl
theorem handed_weighed {a:Assume} {C:Checked} {os:Os} {f:FuncId} {fn:Func} {s:ChangeSpec} {conds:List PathCond} {apart fresh handsOn again:Bool}
    (own:ownKnob C.prog.godebug=none) (started:os.Started) (noInit:C.prog.inits.idxOf? f=none) (hfn:C.prog.funcs[f]?=some fn)
    (witness:∃ (w:World) (tape:Tape) (i:Input),w.os=os∧(w.forCall tape i).Shaped C.prog∧i.vars=[]∧Input.okWide C.prog (w.forCall tape i) .any w.heap.size f i ∧
      s.pre6 enc C.prog fn conds apart (w.forCall tape i).memory i.args∧a.holds C.prog (lone (Frame.enter C.prog f i.args .normal) [] (w.forCall tape i)))
    (contract:∀ (W:World) (base:Nat) (args:Array Value) (ds gs:List (DataW H)) (before:List MemPlace),
      (∀ (j:Nat) t v,fn.params[j]?=some t→args[j]?=some v→Value.okWide C.prog W .any base t v) →
      DataW.Whole enc C.prog fn.params.toList s.vars apart W args.toList ds gs before →
      (DataW.weightsEach C.prog (fn.params.toList++s.plain.varTypes C.prog) (ds++gs)).all (·≤reachBytes)=true →
      Calls C.prog f args W fun e W'=>∃ v,e=.returned v∧s.post enc C.prog fn apart fresh handsOn again W args v W') :
    ReturnsInHanded a C os f .any (s.pre6 enc C.prog fn conds apart) (s.post enc C.prog fn apart fresh handsOn again):=by
  refine returnsInHanded_of_calls own started noInit witness ?_
  intro w tape i _ _ _ hok hpre _
  obtain ⟨_,_,_,fn',hfn',_,_,_,_,hval⟩:=hok
  have e:fn'=fn:=Option.some.inj (hfn'.symm.trans hfn)
  subst e
  obtain ⟨⟨ds,gs,before,hw,_⟩,hz⟩:=hpre
  have hw':=DataW.Whole.of_heap (w':=w.forCall tape i) (by rfl) hw
  refine (contract (w.forCall tape i) w.heap.size i.args ds gs before hval hw' (hz.weights hw)).mono fun e W' ⟨v,he,hp⟩=>?_
  subst he
  exact ChangeSpec.post_blind hp
theorem TW.of {P:Program} {W:World} {t:TypeId} {v:Value} {d:DataW H} {p:List MemPlace} (h:DataW.Trod enc P W 0 (fun _=>true) true t v d p) (hw:okW (d.weights P t)):TW enc P W t v.cells.toList:=by
  obtain ⟨fuel,h⟩:=h
  exact ⟨fuel,(d,p),h,hw⟩
theorem shutB {P:Program} {W:World} {base:Nat} {sp:Nat→Bool} {held:Bool} {t:TypeId} {b:Bool} (ht:P.underlying t=some .bool):DataW.Trod enc P W base sp held t (.bool b) (.lit (.bool b)) []:=⟨1,by simp [DataW.trod,Value.cells,ht]⟩
end Go.Proofs.Ytjhloakacicdiaa
namespace Go.Proofs.Ytjhloakacicdiaa
open Go.AH Go.ChangeShapes Go.WideShapes Go.ChangeAt Go.RowKit
set_option maxRecDepth 100000 in
theorem foldNumbers_lifted (os:Os) (started:os.Started) (H:Type) (enc:TypeId × Value→H) :
    ReturnsInHanded {} Try.checked os 6 .any (Rows.foldNumbersSpec.pre6 enc Try.prog Try.f6 Rows.foldNumbersRow.domain false) (Rows.foldNumbersSpec.post enc Try.prog Try.f6 false true false false):=by
  refine handed_weighed (C:=Try.checked) Try.own started (by kernel_rfl) Try.func6
    (ChangeSpec.witness6 (enc:=enc) (C:=Try.checked) false ⟨#[],#[.agg #[.slice none 0 0,.slice none 0 0,.int .i64 0,.int .i64 0]],[]⟩ 8 (by kernel_rfl) (by kernel_rfl) (by kernel_rfl) (by kernel_rfl)) ?_
  intro W base args ds gs before hval0 hW hwt0
  have hval:∀ (j:Nat) t v,Try.f6.params[j]?=some t→args[j]?=some v→Value.okWide Try.prog W .any base t v:=hval0
  have hwt:(DataW.weightsEach Try.prog (Try.f6.params.toList++Rows.foldNumbersSpec.plain.varTypes Try.prog) (ds++gs)).all (·≤reachBytes)=true:=hwt0
  have hW':DataW.Whole enc Try.prog Try.f6.params.toList Rows.foldNumbersSpec.vars false W args.toList ds gs before:=hW
  obtain ⟨p,q,hA0,hV,hbe,hfz,hnd⟩:=hW
  have hA:DataW.TrodAll enc Try.prog W 0 (fun _=>true) true Try.f6.params.toList args.toList ds p:=hA0
  have hpar:Try.f6.params=#[25]:=by kernel_rfl
  have hA1:=hA
  rw [hpar] at hA1 hval hwt
  obtain ⟨v0,d0,rfl,rfl,h0⟩:=trodAll_one hA1
  obtain ⟨rfl,rfl⟩:=trodVars_none hV
  have hw3:(DataW.weightsEach Try.prog [25] [d0]).all (fun x=>decide (x≤reachBytes))=true:=hwt
  simp only [DataW.weightsEach,List.all_append,Bool.and_eq_true] at hw3
  have hk0:okW (d0.weights Try.prog 25):=fun n hn=>by simpa using List.all_eq_true.1 hw3.1 n hn
  obtain ⟨cs0,rfl,hz0⟩:=okWide_struct Try.underlying25 (hval 0 25 v0 rfl rfl)
  have t0:TW enc Try.prog W 25 cs0.toList:=TW.of h0 hk0
  obtain ⟨ws,acs,hlay,hlen,hmap,hbd,pr,P1,e1,P2,e2,rfl,hfs,hgs,hok⟩:=D_progΨ (G:=Try.prog.globals.size) (g0:=fun _=>none) t0 [] ⟨fun i w b h=>by simp at h,fun i w b h=>by simp at h⟩
  rw [List.nil_append] at hlay hmap hbd hfs hgs
  have hG:Try.prog.globals.size+ws.length≤rwM:=Nat.le_trans (Nat.add_le_add_left hlen _) (Nat.le_of_ble_eq_true (by kernel_rfl))
  have ec0:cs0=⟨(progC pr P1 e1 P2 e2).map (ren (envW Try.prog.globals.size ws))⟩:=by rw [hmap]
  have hN:(hpW Try.prog.globals.size (fun _=>none) ws).n=rwM:=hpW_n _ _ _
  have hb0:∀ v∈progC pr P1 e1 P2 e2,bnd (hpW Try.prog.globals.size (fun _=>none) ws).n v:=fun v hv=>by rw [hN];exact bnd_mono hG v (hbd v hv)
  have ht:=FoldNumbers_tf (hpW Try.prog.globals.size (fun _=>none) ws) pr hok P1 e1 P2 e2 hfs hgs
  have hh:=TF.below ht (fun i b h=>h) (by
    intro x hx
    have hx:x=Value.agg ⟨progC pr P1 e1 P2 e2⟩:=by simpa using hx
    subst hx
    rw [bnd_agg];exact fun v hv=>hb0 v (by simpa using hv)) (Lay.hok hlay hG (fun i b _ h=>by cases h))
  have hargs:(⟨[.agg ⟨progC pr P1 e1 P2 e2⟩]⟩:Array Value).map (ren (envW Try.prog.globals.size ws))=#[.agg cs0]:=by
    rw [ec0]
    simp only [List.map_toArray,List.map_cons,List.map_nil,ren_agg]
  rw [hargs] at hh
  refine hh.mono fun e W' ⟨⟨ρ',he⟩,hb⟩=>?_
  have hres:DataW.TrodAll enc Try.prog W' W.heap.size (fun _=>false) false [4] [.bool true] [.lit (.bool true)] []:=trodAll_mk1 (shutB (by kernel_rfl))
  refine ⟨.bool true,by simpa using he,[d0],[],before,[],p,[],hW',hres,?_,rfl,Below.frame hb _,fun h=>by cases h⟩
  refine trodAll_below Try.laidOut hb (ts:=Try.f6.params.toList) (fun t ht=>?_) (fun x hx=>hW'.lt x (by rw [hbe,List.append_nil];exact hx)) hA
  rw [hpar] at ht
  have ht:t=25:=by simpa using ht
  subst ht
  exact ⟨by kernel_rfl,of_decide_eq_true (by kernel_rfl)⟩
theorem foldNumbers_holds:Rows.FoldNumbersSaid :=
  OpenClaim.holds_of_wide 6 Try.f6 rfl rfl rfl rfl rfl rfl rfl ⟨rfl,rfl,rfl,rfl,rfl⟩ rfl rfl rfl rfl rfl (by kernel_rfl) Try.func6 (by kernel_rfl)
    (of_decide_eq_true (by kernel_rfl)) (by unfold Func.isWrapper;rw [if_neg (by decide +kernel)];exact ⟨rfl,rfl⟩)
    (fun os started H enc _=>foldNumbers_lifted os started H enc)
end Go.Proofs.Ytjhloakacicdiaa
