/-
  What the functions that the law reaches compute,told by plain data;it holds of programs that pass the check of right form and are light.
-/
import Derived.Test.YtgpigfcagppohaaGreatDoorR14
set_option linter.unusedVariables false
set_option linter.unusedSimpArgs false
namespace Go.Proofs.YtgpigfcagppohaaGreatDoor
open Go.AH
attribute [local irreducible] W RS WR
section
variable {h:Hp} {q:Pl} {st st':CS}
theorem fail_again (st:CS) (k p:Nat) (hk:k≠0):(st.fail k p).fail k p=st.fail k p:=by
 have h:(st.fail k p).fk≠0:=by
  unfold CS.fail;split
  ·exact hk
  ·assumption
 exact if_neg h
def stI (st:CS) (s:ByteArray) (p i:Nat):CS:=if (st.nm.take i).any (fun x=>eqB x.1 s && x.2.2 == st.depth) then st.fail 13 p else st
theorem stI_succ {st:CS} {s:ByteArray} {p i:Nat} {x:ByteArray × Nat × Nat} (hx:st.nm[i]?=some x):stI st s p (i+1)=if eqB x.1 s && x.2.2 == st.depth then (stI st s p i).fail 13 p else stI st s p i:=by
 unfold stI
 rw [List.take_add_one,hx,List.any_append]
 cases h1:(st.nm.take i).any (fun x=>eqB x.1 s && x.2.2 == st.depth) with
 | true =>
  simp only [Bool.true_or,if_true]
  split
  ·exact (fail_again _ _ _ (by decide)).symm
  ·rfl
 | false=>simp
theorem stI_nm (st:CS) (s:ByteArray) (p i:Nat):(stI st s p i).nm=st.nm∧(stI st s p i).depth=st.depth:=by
 unfold stI;split
 ·exact ⟨(st.fail_nm 13 p).1,(st.fail_nm 13 p).2.2.2.2.2⟩
 ·exact ⟨rfl,rfl⟩
theorem tyC_le (t:TyS) (b:Nat):0+9≤(tyC t b).length:=by cases t<;>exact Nat.le_refl _
theorem tyC_tk (t:TyS) (b:Nat):takeV 0 9 (tyC t b)=tyC t b:=by cases t<;>rfl
theorem setL_behind:∀ (c r:List Value) (k:Nat) (vs:List Value),k=c.length→setL (c++r) k vs=c++setL r 0 vs
 | [],r,k,vs,h=>by subst h;rfl
 | x::c,r,k,vs,h=>by
  subst h
  show x::setL (c++r) c.length vs=_
  rw [setL_behind c r _ vs rfl];rfl
theorem nms_len (l:List (ByteArray × Nat × Nat)):(nmsC l).length=l.length * 3:=by
 unfold nmsC
 rw [flat_len (w:=3) (fun c hc=>by obtain ⟨y,_,rfl⟩:=List.mem_map.1 hc;rfl),List.length_map]
theorem nms_app (l m:List (ByteArray × Nat × Nat)):nmsC (l++m)=nmsC l++nmsC m:=by unfold nmsC;rw [List.map_append,List.flatten_append]
theorem nms_push (nm:List (ByteArray × Nat × Nat)) (x y:ByteArray × Nat × Nat) (st:List (ByteArray × Nat × Nat)):setL (nmsC (nm++y::st)) (nm.length * 3) (nmC x)=nmsC ((nm++[x])++st):=by
 rw [nms_app,setL_behind _ _ _ _ (nms_len nm).symm,nms_app,nms_app,List.append_assoc]
 congr 1
 show _::_::_::setL (nmsC st) 0 []=_
 rw [setL_nil];rfl
def LocQ (q:Pl) (h:Hp) (i:Nat) (st':CS) (v:Value) (h':Hp):Prop:=v=.int .i64 i∧∃ lb na nc,ChkF h' { q with lb:=lb,na:=na,nc:=nc } st'∧KeptX h h'
theorem local_ex {d:DeclS} {D:Option Addr} {dn:Nat} {t:TyS} {tb i:Nat} (c0:ChkF h q st) (hl:st.fk=0→LcOK st) (ht:TyE h t tb) (hb:∀ n,sizeS t=some n→n≤32768) (hs:localS d t st=some (i,st')):EX Tryz.prog 42 [ptrC q.cb,.agg ⟨declC d D dn⟩,.agg ⟨tyC t tb⟩] h (LocQ q h i st'):=by
 refine EX.intro (fn:=Tryz.f42) (c:=(Tryz.f42.body.getD .skip)) Tryz.func42 (by kernel_rfl) Tryz.ntmps42 (by kernel_rfl) fun π s0=>?_
 conv=>arg 2;whnf
 have w:=NowC.start c0 s0
 have hnl:=c0.w.nl
 ((with_reducible apply W.seq);repeat (first|((with_reducible first|apply RS.assign|apply RS.box);iterate 3 exact rfl)|refine Y0 ?_|refine Y1 ?_|refine Ym ?_))
 ((with_reducible apply W.seq);repeat (fail))
 ((with_reducible apply W.seq);repeat (first|refine Y3k ?_|refine Yy ?_|refine Y0 ?_|refine Y1 ?_|refine Y24 ?_))
 refine W.loopN (X:=Nat × Nat × Nat) (fun x=>[(0,ptrC q.cb),(4,ptrC x.2.1),(5,ptrC x.2.2),(14,.slice q.na st.nm.length q.nc),(15,.int .i64 st.nm.length),(16,.int .i64 x.1)]) (fun x B=>x.1≤st.nm.length∧NowC q st h B (stI st d.name d.pos x.1)∧B.m x.2.1=some ⟨⟨declC d D dn⟩,116⟩∧B.m x.2.2=some ⟨⟨tyC t tb⟩,71⟩) (fun x=>st.nm.length - x.1)
  (fun B' a=>⟨(0,π 0,π 1),?_,Nat.zero_le _,(by have:stI st d.name d.pos 0=st:=rfl;rw [this];exact w.abs a),a.loc 0 (Nat.le_of_ble_eq_true rfl),a.loc 1 (Nat.le_of_ble_eq_true rfl)⟩) ?_
 ·(repeat' (first|exact trivial|exact rfl|apply And.intro));done
 clear w
 rintro ⟨i,p4,p5⟩ B π1 sB ⟨hle,w,h4,h5⟩
 dsimp only at hle w h4 h5 ⊢
 by_cases hi:i < st.nm.length
 ·obtain ⟨x,hx⟩:∃ x,st.nm[i]?=some x:=⟨_,List.getElem?_eq_getElem hi⟩
  have hx':(stI st d.name d.pos i).nm[i]?=some x:=by rw [(stI_nm st d.name d.pos i).1];exact hx
  have hdp:=(stI_nm st d.name d.pos i).2
  have hnn:=(stI_nm st d.name d.pos i).1
  obtain ⟨b,cs,hna,hnc,hmb,htk,hlen⟩:=nm_row w.c.w.n hx'
  have hsu:=stI_succ (s:=d.name) (p:=d.pos) hx
  generalize stI st d.name d.pos i=sti at *
  cases he:eqB x.1 d.name with
  | false =>
   rw [he,Bool.false_and,if_neg (by decide)] at hsu
   repeat (first|refine Y21 ?_|refine Y2a ?_|refine Ye ?_|refine Y2j ?_|refine Y1r ?_|refine Yc ?_|refine Y6 ?_|refine Yp ?_|refine Yh ?_|refine Y2 ?_|refine Y9 ?_|refine Yk ?_|refine Y0 ?_|refine Yt ?_|refine Y1 ?_|refine Y5 ?_|refine Y3 ?_)
   refine roundN_n rfl fun B' a=>⟨(i+1,p4,p5),?_,⟨by dsimp only;omega,(by dsimp only;rw [hsu];exact w.abs a),a.up _ _ h4,a.up _ _ h5⟩,by dsimp only;omega⟩
   (repeat' (first|exact trivial|exact rfl|apply And.intro));done
  | true =>
   by_cases hd:x.2.2=sti.depth
   ·rw [he,Bool.true_and,if_pos (by rw [hd,hdp];exact beq_self_eq_true _)] at hsu
    repeat (first|refine Y3k ?_|refine Y21 ?_|refine Y2a ?_|refine Ye ?_|refine Y2j ?_|((with_reducible apply (RS.callWB (g0:=33) []));(iterate 3 exact rfl);exact w.c.w.c;exact w.d _ _ w.c.w.c;exact fun H hH=>cfail_tf (w.c.w.sees w.d hH) 13 d.pos;(have h4:=w.kxo (OffP.set _ (ckB q (ptrC q.fb) (sti.fail 13 d.pos))) _ _ h4 rfl);(have h5:=w.kxo (OffP.set _ (ckB q (ptrC q.fb) (sti.fail 13 d.pos))) _ _ h5 rfl);(have w:=w.failed 13 d.pos (by decide)))|refine Yf ?_|refine Yd ?_|refine Y6 ?_|refine Yp ?_|refine Yh ?_|refine Y2 ?_|refine Y9 ?_|refine Y0 ?_|refine Yt ?_|refine Y1 ?_|refine Y5 ?_)
    refine roundN_n rfl fun B' a=>⟨(i+1,p4,p5),?_,⟨by dsimp only;omega,(by dsimp only;rw [hsu];exact w.abs a),a.up _ _ h4,a.up _ _ h5⟩,by dsimp only;omega⟩
    (repeat' (first|exact trivial|exact rfl|apply And.intro));done
   ·rw [he,Bool.true_and,if_neg (by rw [← hdp,beq_iff_eq];exact hd)] at hsu
    repeat (first|refine Y3k ?_|refine Y21 ?_|refine Y2a ?_|refine Ye ?_|refine Y2j ?_|refine Yf ?_|refine Yd ?_|refine Y6 ?_|refine Y4 ?_|refine Yp ?_|refine Yh ?_|refine Y2 ?_|refine Y9 ?_|refine Y0 ?_|refine Yt ?_|refine Y1 ?_|refine Y5 ?_|refine Y3 ?_)
    refine roundN_n rfl fun B' a=>⟨(i+1,p4,p5),?_,⟨by dsimp only;omega,(by dsimp only;rw [hsu];exact w.abs a),a.up _ _ h4,a.up _ _ h5⟩,by dsimp only;omega⟩
    (repeat' (first|exact trivial|exact rfl|apply And.intro));done
 ·obtain rfl:i=st.nm.length:=by omega
  have hu:(if (st.nm.any fun x=>eqB x.1 d.name && x.2.2 == st.depth)=true then st.fail 13 d.pos else st)=stI st d.name d.pos st.nm.length:=by
   unfold stI;rw [List.take_length]
  unfold localS at hs
  dsimp only at hs
  rw [hu] at hs
  obtain ⟨n,hn,hs⟩:=bind_some' hs
  have hk0:(stI st d.name d.pos st.nm.length).fk=0→stI st d.name d.pos st.nm.length=st:=fun e=>(w.n e).1
  generalize stI st d.name d.pos st.nm.length=u at *
  by_cases hf:u.fk≠0
  ·rw [if_pos hf] at hs
   simp only [Option.some.injEq,Prod.mk.injEq] at hs
   obtain ⟨rfl,rfl⟩:=hs
   repeat (first|refine Y55 ?_|refine Y57 ?_|refine Y1j ?_|refine Y2j ?_|refine Yl ?_|refine Y4 ?_|refine Y0 ?_|refine Y62 ?_|refine Y1 ?_|refine Y5 ?_|refine Y3 ?_|refine Yn ?_)
   exact endsK_ret _ (.cons (.tmp rfl) .nil) fun B' a=>⟨rfl,q.lb,q.na,q.nc,(w.abs a).c,(w.abs a).k⟩
  ·have hf:u.fk=0:=Decidable.of_not_not hf
   obtain rfl:=hk0 hf
   rw [if_neg (fun e=>e hf)] at hs
   split at hs
   ·cases hs
   rename_i hfull
   obtain ⟨m,hm,hs⟩:=bind_some' hs
   simp only [Option.some.injEq,Prod.mk.injEq] at hs
   obtain ⟨rfl,rfl⟩:=hs
   have hm0:=Nat.le_trans (bytes_le (hl hf) hm) (Nat.mul_le_mul_right 32768 w.c.ll)
   have hn8:=upS8_le (hb n hn)
   obtain ⟨v,hv⟩:∃ v,v=(if 4096 < m+upS8 n then u.fail 5 d.pos else u):=⟨_,rfl⟩
   rw [← hv]
   have hvl:v.lc=u.lc∧v.nm=u.nm∧v.depth=u.depth:=by
    rw [hv];split
    ·exact ⟨(u.fail_nm 5 d.pos).2.2.2.1,(u.fail_nm 5 d.pos).1,(u.fail_nm 5 d.pos).2.2.2.2.2⟩
    ·exact ⟨rfl,rfl,rfl⟩
   ((with_reducible apply W.seq);repeat (first|refine Y4 ?_|refine Y0 ?_|refine Y1 ?_|refine Ym ?_))
   ((with_reducible apply W.seq);repeat (first|(with_reducible first|apply W.exit|apply thenK_n|apply thenK_e|apply roundN_e)|refine Y3 ?_|refine Yn ?_))
   ((with_reducible apply W.seq);repeat (first|refine Y55 ?_|refine Y57 ?_|refine Y2j ?_|refine Yu ?_|refine Y0 ?_|refine Y1 ?_|refine Ym ?_))
   ((with_reducible apply W.seq);repeat (fail))
   ((with_reducible apply W.seq);repeat (first|refine Yb ?_|refine Y16 ?_|refine Y0 ?_|refine Y1 ?_|refine Y1h ?_|refine Y3 ?_))
   ((with_reducible apply W.seq);repeat (fail))
   ((with_reducible apply W.seq);repeat (first|((with_reducible apply (RS.callA (g0:=75)));(iterate 3 exact rfl);exact fun B' hB'=>bytes_tf (w.abs hB').c hm (hl hf))|((with_reducible apply (RS.callA (g0:=38)));(iterate 3 exact rfl);exact fun B' hB'=>up8_tf n (Nat.le_trans (hb n hn) (by decide)) B')|((with_reducible apply (RS.binFit (n:=((m+upS8 n:Nat):Int))));(iterate 4 exact rfl);exact congrArg some (show (m:Int)+(upS8 n:Nat)=((m+upS8 n:Nat):Int) by omega);omega)|refine Y11 ?_|refine Yo ?_|refine Y0 ?_|refine Y1 ?_|refine Ym ?_))
   refine W.joinNT (X:=Unit) (fun _=>[(0,ptrC q.cb),(4,ptrC p4),(5,ptrC p5)]) (fun _ B=>NowC q u h B v∧B.m p4=some ⟨⟨declC d D dn⟩,116⟩∧B.m p5=some ⟨⟨tyC t tb⟩,71⟩) ?_ ?_
   ·with_reducible apply W.condD
    ·exact rfl
    ·intro hbig
     rw [if_pos (show 4096 < m+upS8 n by omega)] at hv
     subst hv
     repeat (first|((with_reducible apply (RS.callWB (g0:=33) []));(iterate 3 exact rfl);exact w.c.w.c;exact w.d _ _ w.c.w.c;exact fun H hH=>cfail_tf (w.c.w.sees w.d hH) 5 d.pos;(have h4:=w.kxo (OffP.set _ (ckB q (ptrC q.fb) (u.fail 5 d.pos))) _ _ h4 rfl);(have h5:=w.kxo (OffP.set _ (ckB q (ptrC q.fb) (u.fail 5 d.pos))) _ _ h5 rfl);(have w:=w.failed 5 d.pos (by decide)))|refine Y2j ?_|refine Yf ?_|refine Y0 ?_|refine Y1 ?_)
     refine joinN_n rfl fun B' a=>⟨(),?_,w.abs a,a.up _ _ h4,a.up _ _ h5⟩
     (repeat' (first|exact trivial|exact rfl|apply And.intro));done
    ·intro hbig
     rw [if_neg (show ¬ 4096 < m+upS8 n by omega)] at hv
     subst hv
     repeat (first|(with_reducible apply W.skip))
     refine joinN_n rfl fun B' a=>⟨(),?_,w.abs a,a.up _ _ h4,a.up _ _ h5⟩
     (repeat' (first|exact trivial|exact rfl|apply And.intro));done
   clear w h4 h5
   rintro ⟨⟩ B π1 sB ⟨w,h4,h5⟩
   obtain ⟨hv1,hv2,hv3⟩:=hvl
   rw [← hv1,← hv2,← hv3]
   have hcw:=w.c
   ((with_reducible apply W.seq);repeat (first|refine Y4u ?_|refine Y1c ?_|refine Y0 ?_|refine Y1 ?_|refine Ym ?_))
   with_reducible apply W.seq
   refine W.joinNT (X:=Nat) (fun lb=>[(0,ptrC q.cb),(4,ptrC p4),(10,.int .i64 v.lc.length)]) (fun lb B'=>ChkF B' { q with lb:=lb } { v with lc:=v.lc++[t] }∧KeptX h B'∧B'.m p4=some ⟨⟨declC d D dn⟩,116⟩∧∀ i b,B'.m i=some b→i < B'.n) ?_ ?_
   ·have hfn:=hcw.fw
    have hll:v.lc.length < 100:=by rw [hv1];omega
    have hfb:=w.d _ _ w.c.f
    by_cases hl0:v.lc=[]
    ·have hsn:some (Value.slice (rA1 q.lb v.lc) v.lc.length (rK1 15 v.lc))=some (.slice none 0 0):=by rw [hl0];rfl
     have hfc:∀ k,setL (fnC q v (.pointer none)) 12 [.slice (some ⟨k,0,none⟩) 1 (capOf 15)]=fnC { q with lb:=k } { v with lc:=v.lc++[t] } (.pointer none):=fun k=>by
      show _=[_,_,_,_,_,_,_,_,_,_,_,_,Value.slice (rA1 k (v.lc++[t])) (v.lc++[t]).length (rK1 15 (v.lc++[t])),_]
      rw [hl0];rfl
     have hpush:∀ (B':Hp) (k:Nat) (mem:Bool),(∀ i c,i≠q.fb→B.m i=some c→B'.m i=some c)→B'.m q.fb=some ⟨⟨fnC { q with lb:=k } { v with lc:=v.lc++[t] } (.pointer none)⟩,134⟩→B'.m k=some ⟨⟨varC d.name t tb mem 0 (.slice none 0 0)⟩,74⟩→rwM≤k→(∀ i b,B'.m i=some b→i < B'.n)→ChkF B' { q with lb:=k } { v with lc:=v.lc++[t] }∧KeptX h B'∧B'.m p4=some ⟨⟨declC d D dn⟩,116⟩∧∀ i b,B'.m i=some b→i < B'.n:=fun B' k mem up hf hm hk hdm=>by
      obtain ⟨g1,g2⟩:=hcw.pushL (t:=t) (row:=varC d.name t tb mem 0 (.slice none 0 0)) (gs:=[]) (fun i c h1 _ h3=>up i c h1 h3) hf (fun e=>absurd hl0 e) (fun _=>rfl) (by simpa using hm) ⟨_,_,_,rfl,ht.up w.k⟩ (varC_len _ _ _ _ _ _) hk hll
      exact ⟨g1,w.k.trans g2,up _ _ (elem_ne h4 hcw.f rfl) h4,hdm⟩
     cases t with
     | void=>cases hn
     | int l =>
      repeat (first|refine Y2i ?_|refine Y1y ?_|refine Y2k ?_|refine Yi ?_|refine Y1n ?_|refine Y30 ?_|refine Yf ?_|refine Yc ?_|refine Y4 ?_|refine Ya ?_|refine Y0 ?_|refine Y1 ?_)
      refine joinN_n rfl fun B' a=>⟨π1 1,?_,hpush B' _ false (fun i c h1 hi=>a.up _ _ ((if_neg h1).trans hi)) (a.up _ _ (if_pos rfl)) (a.loc 1 (Nat.le_of_ble_eq_true rfl)) (Nat.le_trans a.rw (a.lo 1 (Nat.le_of_ble_eq_true rfl))) a.dom⟩
      (repeat' (first|exact trivial|exact rfl|apply And.intro));done
     | ptr l =>
      repeat (first|refine Y2i ?_|refine Y1y ?_|refine Y2k ?_|refine Yi ?_|refine Y1n ?_|refine Y30 ?_|refine Yf ?_|refine Yc ?_|refine Y4 ?_|refine Ya ?_|refine Y0 ?_|refine Y1 ?_)
      refine joinN_n rfl fun B' a=>⟨π1 1,?_,hpush B' _ false (fun i c h1 hi=>a.up _ _ ((if_neg h1).trans hi)) (a.up _ _ (if_pos rfl)) (a.loc 1 (Nat.le_of_ble_eq_true rfl)) (Nat.le_trans a.rw (a.lo 1 (Nat.le_of_ble_eq_true rfl))) a.dom⟩
      (repeat' (first|exact trivial|exact rfl|apply And.intro));done
     | arr l n2 =>
      repeat (first|refine Y2i ?_|refine Y1y ?_|refine Y2k ?_|refine Yi ?_|refine Y1n ?_|refine Y30 ?_|refine Yf ?_|refine Yd ?_|refine Yo ?_|refine Ya ?_|refine Yk ?_|refine Y0 ?_|refine Y1 ?_)
      refine joinN_n rfl fun B' a=>⟨π1 1,?_,hpush B' _ true (fun i c h1 hi=>a.up _ _ ((if_neg h1).trans hi)) (a.up _ _ (if_pos rfl)) (a.loc 1 (Nat.le_of_ble_eq_true rfl)) (Nat.le_trans a.rw (a.lo 1 (Nat.le_of_ble_eq_true rfl))) a.dom⟩
      (repeat' (first|exact trivial|exact rfl|apply And.intro));done
    ·have hsw:some (Value.slice (rA1 q.lb v.lc) v.lc.length (rK1 15 v.lc))=some (.slice (some ⟨q.lb,0,none⟩) v.lc.length (capOf 15)):=by unfold rA1 rK1;rw [if_neg hl0,if_neg hl0]
     obtain ⟨gs,hgs⟩:=hcw.l hl0
     have hgm:=hgs.m
     have hgl:gs.flatten.length=v.lc.length * 15:=by rw [flat_len hgs.wid,hgs.len]
     have hfl:q.fb≠q.lb:=elem_ne hcw.f hgm rfl
     have hcl:q.cb≠q.lb:=elem_ne hcw.w.c hgm rfl
     have hfc:∀ k,setL (fnC q v (.pointer none)) 12 [.slice (some ⟨k,0,none⟩) (v.lc.length+1) (capOf 15)]=fnC { q with lb:=k } { v with lc:=v.lc++[t] } (.pointer none):=fun k=>by
      show _=[_,_,_,_,_,_,_,_,_,_,_,_,Value.slice (rA1 k (v.lc++[t])) (v.lc++[t]).length (rK1 15 (v.lc++[t])),_]
      unfold rA1 rK1
      rw [if_neg (by simp),if_neg (by simp),List.length_append];rfl
     have hpush:∀ (B':Hp) (k:Nat) (mem:Bool),(∀ i c,i≠q.fb→i≠q.lb→B.m i=some c→B'.m i=some c)→B'.m q.fb=some ⟨⟨fnC { q with lb:=k } { v with lc:=v.lc++[t] } (.pointer none)⟩,134⟩→B'.m k=some ⟨⟨gs.flatten++varC d.name t tb mem 0 (.slice none 0 0)⟩,74⟩→rwM≤k→(∀ i b,B'.m i=some b→i < B'.n)→ChkF B' { q with lb:=k } { v with lc:=v.lc++[t] }∧KeptX h B'∧B'.m p4=some ⟨⟨declC d D dn⟩,116⟩∧∀ i b,B'.m i=some b→i < B'.n:=fun B' k mem up hf hm hk hdm=>by
      obtain ⟨g1,g2⟩:=hcw.pushL (t:=t) (row:=varC d.name t tb mem 0 (.slice none 0 0)) (gs:=gs) (fun i c h1 h2 h3=>up i c h1 (h2 hl0) h3) hf (fun _=>hgs) (fun e=>absurd e hl0) (by simpa using hm) ⟨_,_,_,rfl,ht.up w.k⟩ (varC_len _ _ _ _ _ _) hk hll
      exact ⟨g1,w.k.trans g2,up _ _ (elem_ne h4 hcw.f rfl) (elem_ne h4 hgm rfl) h4,hdm⟩
     cases t with
     | void=>cases hn
     | int l =>
      repeat (first|refine Y3f ?_|refine Y1y ?_|refine Y2k ?_|refine Yi ?_|refine Y4r ?_|refine Y1a ?_|refine Y2q ?_|((with_reducible apply RS.nilX);exact mixed;(intro _;kernel_rfl);(intro _;exact sideOK_all (j:=q.lb) (b:=q.cb) hcl.symm (by repeat' (first|exact trivial|exact .inl rfl|exact .inr rfl|apply And.intro)));rotate_left;exact rfl)|refine Yf ?_|refine Yc ?_|refine Y4 ?_|refine Ya ?_|refine Y1 ?_)
      refine joinN_n rfl fun B' a=>⟨π1 1,?_,hpush B' _ false (fun i c h1 h2 hi=>a.up _ _ ((if_neg h1).trans ((if_neg h2).trans hi))) (a.up _ _ (if_pos rfl)) (a.loc 1 (Nat.le_of_ble_eq_true rfl)) (Nat.le_trans a.rw (a.lo 1 (Nat.le_of_ble_eq_true rfl))) a.dom⟩
      (repeat' (first|exact trivial|exact rfl|apply And.intro));done
     | ptr l =>
      repeat (first|refine Y3f ?_|refine Y1y ?_|refine Y2k ?_|refine Yi ?_|refine Y4r ?_|refine Y1a ?_|refine Y2q ?_|((with_reducible apply RS.nilX);exact mixed;(intro _;kernel_rfl);(intro _;exact sideOK_all (j:=q.lb) (b:=q.cb) hcl.symm (by repeat' (first|exact trivial|exact .inl rfl|exact .inr rfl|apply And.intro)));rotate_left;exact rfl)|refine Yf ?_|refine Yc ?_|refine Y4 ?_|refine Ya ?_|refine Y1 ?_)
      refine joinN_n rfl fun B' a=>⟨π1 1,?_,hpush B' _ false (fun i c h1 h2 hi=>a.up _ _ ((if_neg h1).trans ((if_neg h2).trans hi))) (a.up _ _ (if_pos rfl)) (a.loc 1 (Nat.le_of_ble_eq_true rfl)) (Nat.le_trans a.rw (a.lo 1 (Nat.le_of_ble_eq_true rfl))) a.dom⟩
      (repeat' (first|exact trivial|exact rfl|apply And.intro));done
     | arr l n2 =>
      repeat (first|refine Y3f ?_|refine Y1y ?_|refine Y2k ?_|refine Yi ?_|refine Y4r ?_|refine Y1a ?_|refine Y2q ?_|((with_reducible apply RS.nilX);exact mixed;(intro _;kernel_rfl);(intro _;exact sideOK_all (j:=q.lb) (b:=q.cb) hcl.symm (by repeat' (first|exact trivial|exact .inl rfl|exact .inr rfl|apply And.intro)));rotate_left;exact rfl)|refine Yf ?_|refine Yd ?_|refine Yo ?_|refine Ya ?_|refine Yk ?_|refine Y1 ?_)
      refine joinN_n rfl fun B' a=>⟨π1 1,?_,hpush B' _ true (fun i c h1 h2 hi=>a.up _ _ ((if_neg h1).trans ((if_neg h2).trans hi))) (a.up _ _ (if_pos rfl)) (a.loc 1 (Nat.le_of_ble_eq_true rfl)) (Nat.le_trans a.rw (a.lo 1 (Nat.le_of_ble_eq_true rfl))) a.dom⟩
      (repeat' (first|exact trivial|exact rfl|apply And.intro));done
   rintro lb B2 π2 sB2 ⟨c2,k2,h42,d2⟩
   dsimp only at c2 ⊢
   have hcw2:=c2.w.cw
   have hcn2:=d2 _ _ c2.w.c
   have hnl:v.nm.length < 100:=by rw [hv2];omega
   have hfc:∀ k,setL (ckC { q with lb:=lb } (ptrC q.fb) { v with lc:=v.lc++[t] }) 5 [.slice (some ⟨k,0,none⟩) (v.nm.length+1) (capOf 3)]=ckC { q with lb:=lb,na:=some ⟨k,0,none⟩,nc:=capOf 3 } (ptrC q.fb) { v with lc:=v.lc++[t],nm:=v.nm++[(d.name,v.lc.length,v.depth)] }:=fun k=>by
    show _=[_,_,_,_,_,Value.slice _ (v.nm++[_]).length _,_,_,_]
    rw [List.length_append];rfl
   have hpush:∀ (B':Hp) (k:Nat),(∀ i c,i≠q.cb→q.na≠some ⟨i,0,none⟩→B2.m i=some c→B'.m i=some c)→B'.m q.cb=some (ckB { q with lb:=lb,na:=some ⟨k,0,none⟩,nc:=capOf 3 } (ptrC q.fb) { v with lc:=v.lc++[t],nm:=v.nm++[(d.name,v.lc.length,v.depth)] })→(∃ sl,B'.m k=some ⟨⟨nmsC ((v.nm++[(d.name,v.lc.length,v.depth)])++sl)⟩,186⟩)→rwM≤k→LocQ q h v.lc.length { v with lc:=v.lc++[t],nm:=v.nm++[(d.name,v.lc.length,v.depth)] } (.int .i64 v.lc.length) B':=fun B' k up hc ⟨sl,hm⟩ hk=>by
    obtain ⟨g1,g2⟩:=c2.pushN (na:=some ⟨k,0,none⟩) (nc:=capOf 3) (x:=(d.name,v.lc.length,v.depth)) up hc (.inr ⟨k,_,sl,rfl,rfl,hm,hk,rfl⟩) hnl
    exact ⟨rfl,lb,_,_,g1,k2.trans g2⟩
   rcases c2.w.n with ⟨hA,hC,hN⟩|⟨nb,ncs,sl,hA,hC,hnm,hnw,_⟩
   ·have hsn:some (Value.slice q.na v.nm.length q.nc)=some (.slice none 0 0):=by
     have hA:q.na=none:=hA
     have hC:q.nc=0:=hC
     have hN:v.nm=[]:=hN
     rw [hA,hC,hN];rfl
    have hn0:v.nm.length+1=1:=by have hN:v.nm=[]:=hN;rw [hN];rfl
    rw [hn0] at hfc
    repeat (first|refine Yi ?_|refine Y3e ?_|refine Y1n ?_|((with_reducible apply RS.storeB);(iterate 3 exact rfl);exact c2.w.c;exact hcn2;exact hcw2;exact Nat.le_of_ble_eq_true rfl;(iterate 2 exact rfl);exact hfc _)|refine Y8 ?_|refine Ya ?_|refine Y0 ?_|refine Yq ?_|refine Y1 ?_)
    exact endsK_ret _ (.cons (.tmp rfl) .nil) fun B' a=>hpush B' _ (fun i c h1 _ hi=>a.up _ _ ((if_neg h1).trans hi)) (a.up _ _ (if_pos rfl)) ⟨[],(a.loc 1 (Nat.le_of_ble_eq_true rfl)).trans (by have hN:v.nm=[]:=hN;rw [hN];rfl)⟩ (Nat.le_trans a.rw (a.lo 1 (Nat.le_of_ble_eq_true rfl)))
   have hA:q.na=some ⟨nb,0,none⟩:=hA
   have hC:q.nc=capOf 3:=hC
   have hsw:some (Value.slice q.na v.nm.length q.nc)=some (.slice (some ⟨nb,0,none⟩) v.nm.length (capOf 3)):=by rw [hA,hC]
   have hnn:=d2 _ _ hnm
   have hcb:q.cb≠nb:=elem_ne c2.w.c hnm rfl
   cases sl with
   | nil =>
    have hnm:B2.m nb=some ⟨⟨nmsC v.nm⟩,186⟩:=by rw [hnm,List.append_nil]
    repeat (first|refine Yi ?_|refine Y3e ?_|((with_reducible apply (RS.growXL (j:=nb) (i:=0)));(iterate 2 exact rfl);exact hsw;(iterate 3 exact rfl);exact hnm;exact hnn;exact hnw;exact nms_len _;(iterate 2 exact rfl);exact Nat.le_of_ble_eq_true rfl;exact rfl;exact Nat.le_trans (Nat.mul_le_mul_right _ (show v.nm.length+1≤100 from by omega)) (Nat.le_of_ble_eq_true rfl);exact Nat.le_trans (show v.nm.length+1≤100 from by omega) (Nat.le_of_ble_eq_true rfl))|refine Y47 ?_|((with_reducible apply RS.nilX);exact mixed;(intro _;kernel_rfl);(intro _;exact sideOK_all (j:=nb) (b:=q.cb) hcb.symm (by repeat' (first|exact trivial|exact .inl rfl|exact .inr rfl|apply And.intro)));rotate_left;exact rfl)|refine Y8 ?_|refine Ya ?_|refine Yq ?_|refine Y1 ?_)
    exact endsK_ret _ (.cons (.tmp rfl) .nil) fun B' a=>hpush B' _ (fun i c h1 h2 hi=>a.up _ _ ((if_neg h1).trans ((if_neg (fun e=>h2 (by rw [hA,e]))).trans hi))) (a.up _ _ (if_pos rfl)) ⟨[],(a.loc 1 (Nat.le_of_ble_eq_true rfl)).trans (by rw [List.append_nil,nms_app];rfl)⟩ (Nat.le_trans a.rw (a.lo 1 (Nat.le_of_ble_eq_true rfl)))
   | cons y sl =>
    have hlen:(v.nm.length+1) * 3≤(nmsC (v.nm++y::sl)).length:=by rw [nms_len,List.length_append,List.length_cons];omega
    repeat (first|refine Yi ?_|refine Y3e ?_|((with_reducible apply RS.nilX);exact mixed;(intro _;kernel_rfl);(intro _;exact sideOK_all (j:=nb) (b:=q.cb) hcb.symm (by repeat' (first|exact trivial|exact .inl rfl|exact .inr rfl|apply And.intro)));rotate_left;exact rfl)|((with_reducible apply (RS.pushInX (i:=0) (j:=nb)));(iterate 2 exact rfl);exact hsw;(iterate 2 exact rfl);exact hnm;exact hnn;exact hnw;exact hlen;iterate 4 exact rfl)|refine Y47 ?_|refine Y8 ?_|refine Ya ?_|refine Yq ?_|refine Y1 ?_)
    exact endsK_ret _ (.cons (.tmp rfl) .nil) fun B' a=>hpush B' _ (fun i c h1 h2 hi=>a.up _ _ ((if_neg h1).trans ((if_neg (fun e=>h2 (by rw [hA,e]))).trans hi))) (a.up _ _ (if_pos rfl)) ⟨sl,a.up _ _ ((if_neg hcb.symm).trans ((if_pos rfl).trans (by rw [← nms_push];rfl)))⟩ hnw
end
end Go.Proofs.YtgpigfcagppohaaGreatDoor
