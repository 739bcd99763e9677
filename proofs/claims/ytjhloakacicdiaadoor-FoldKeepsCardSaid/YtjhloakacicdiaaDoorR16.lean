/-
  What the functions that the law reaches compute,told by plain data;it holds of programs that pass the check of right form and are light.
-/
import Derived.Test.YtjhloakacicdiaaDoorR15
import Derived.Test.YtjhloakacicdiaaDoorR6
set_option linter.unusedVariables false
set_option linter.unusedSimpArgs false
namespace Go.Proofs.YtjhloakacicdiaaDoor
open Go.AH
attribute [local irreducible] W RS
theorem rep_fact (n:Nat):repL (cellsV (.agg ⟨[.int .i64 0,.int .i64 0]⟩)) n=factsC (List.replicate n noF):=by
 induction n with
 | zero=>rfl
 | succ n ih=>rw [repL,ih,List.replicate_succ];rfl
theorem rep_bool (n:Nat):repL (cellsV (.bool false)) n=(List.replicate n false).map .bool:=by
 induction n with
 | zero=>rfl
 | succ n ih=>rw [repL,ih,List.replicate_succ];rfl
theorem rows_nil (n:Nat):List.replicate n (Value.slice none 0 0)=rowsV (List.replicate n 0) (List.replicate n []):=by
 induction n with
 | zero=>rfl
 | succ n ih=>rw [List.replicate_succ,List.replicate_succ,List.replicate_succ,rowsV,← ih];rfl
theorem fill_set (n i:Nat) (h:i < n):(List.replicate i anyF++List.replicate (n - i) noF).set i anyF=List.replicate (i+1) anyF++List.replicate (n - (i+1)) noF:=by
 apply List.ext_getElem?
 intro j
 rw [List.getElem?_set]
 by_cases e:i=j
 ·subst e
  rw [if_pos rfl,if_pos (by simp;omega),List.getElem?_append_left (by simp),List.getElem?_replicate,if_pos (by omega)]
 ·rw [if_neg e]
  by_cases h1:j < i
  ·rw [List.getElem?_append_left (by simp;omega),List.getElem?_append_left (by simp;omega),List.getElem?_replicate,List.getElem?_replicate,if_pos h1,if_pos (by omega)]
  ·rw [List.getElem?_append_right (by simp;omega),List.getElem?_append_right (by simp;omega),List.getElem?_replicate,List.getElem?_replicate,List.length_replicate,List.length_replicate]
   by_cases h2:j < n
   ·rw [if_pos (by omega),if_pos (by omega)]
   ·rw [if_neg (by omega),if_neg (by omega)]
theorem FaAt.set {h:Hp} {A:Option Addr} {l l':List FactS} (s:FaAt h A l) (hl:l'.length=l.length):FaAt (faH h A l') A l':=by
 cases s with
 | none =>
  have:l'=[]:=List.length_eq_zero_iff.1 hl
  subst this
  exact .none
 | some hm hr=>exact .some (by show (if _=_ then _ else _)=_;rw [if_pos rfl]) hr
theorem faH_off {h:Hp} {A:Option Addr} {l l':List FactS} {N:Nat} (s:FaAt h A l) (hN:∀ x,A=Option.some x→N≤x.block):OffS (fun i=>N≤i) h (faH h A l'):=by
 cases s with
 | none=>exact .refl _ _
 | some hm hr=>exact (OffS.set h _ _).mono fun j _ e=>by rw [e];exact hN _ rfl
theorem faH_keep {h:Hp} {A:Option Addr} {l l':List FactS} (s:FaAt h A l) {i:Nat} {b:Blk} (hb:h.m i=Option.some b) (he:b.elem≠145∨∀ x,A=Option.some x→i≠x.block):(faH h A l').m i=Option.some b:=by
 cases s with
 | none=>exact hb
 | some hm hr =>
  show (if i=_ then _ else h.m i)=_
  rw [if_neg]
  ·exact hb
  ·intro e
   rcases he with he|he
   ·exact ne_of_elem hb hm he e
   ·exact he _ rfl e
theorem SolAt.apart {h:Hp} {N sb fb ib nb:Nat} {al:List Nat} {n:Nat} {s:SolS} (o:SolAt h N sb fb ib nb al n s) {A:Option Addr} {l l':List FactS} (hs:FaAt h A l) (hap:∀ x,A=some x→ApartF al s.ins x.block):SolAt (faH h A l') N sb fb ib nb al n s:=by
 have hk:∀ {i:Nat} {b:Blk},h.m i=some b→b.elem≠145→(faH h A l').m i=some b:=fun hb he=>faH_keep hs hb (.inl he)
 refine ⟨o.rw,o.alen,o.ilen,o.slen,o.gs,o.gi,o.gn,hk o.hi (by simp),hk o.hn (by simp),fun i a m h1 h2 h3=>⟨(o.row i a m h1 h2 h3).1,faH_keep hs (o.row i a m h1 h2 h3).2 (.inr fun x hx e=>?_)⟩,o.sep,?_⟩
 ·exact h3 (hap x hx i m (by rw [← e];exact h1) h2)
 ·obtain ⟨A2,cap,h1,h2,h3⟩:=o.stk
  exact ⟨A2,cap,hk h1 (by simp),h2.keep fun i b hb he=>hk hb (by rw [he];decide),h3⟩
theorem reachFs_left {n r:Nat} {l:List FactS} (hl:l.length=r) (hf:FitF l) (hw:WfF l):∀ (ks:List Int) (s:SolS),SolW n r s→GoodS s→(∀ k∈ks,0≤k∧k < n)→GoodS (ks.foldl (reachF l) s)∧leftS r (ks.foldl (reachF l) s)≤leftS r s
 | [],s,_,g,_=>⟨g,Nat.le_refl _⟩
 | k::ks,s,w,g,hk=>by
  obtain ⟨g1,l1⟩:=reachF_left w g hl hf hw (hk k (by simp)).1 (hk k (by simp)).2
  obtain ⟨w1,_⟩:=reachF_ok w hl (hk k (by simp)).1 (hk k (by simp)).2
  obtain ⟨g2,l2⟩:=reachFs_left hl hf hw ks (reachF l s k) w1 g1 fun j hj=>hk j (by simp [hj])
  exact ⟨g2,Nat.le_trans l2 l1⟩
theorem hwU {B B':Hp} {sb i:Nat} {N fb ib nb:Nat} {al:List Nat} {n:Nat} {s:SolS} (hu:∀ i b,B.m i=some b→B'.m i=some b) (o:SolAt B N sb fb ib nb al n s) (hw:ApartW B sb i):ApartW B' sb i:=by
 obtain ⟨A2,cap,h1,_⟩:=o.stk
 intro f g e A n c el hm
 have h2:=hu _ _ h1
 rw [h2,← h1] at hm
 exact hw f g e A n c el hm
theorem oldM {h H B:Hp} {N:Nat} (o:Old h H) (ho:OffS (fun i=>N≤i) H B) (hN:h.n≤N):Old h B:=⟨Nat.le_trans o.1 ho.1,fun i hi=>by rw [ho.2 i (Nat.lt_of_lt_of_le hi o.1) (fun e=>by omega),o.2 i hi]⟩
theorem oldN {h B H:Hp} (o:Old h B) (ho:OffS (fun i=>h.n≤i) B H):Old h H:=(o.off.trans (S:=fun i=>h.n≤i) ho fun j _ e=>e).old fun j hj e=>by omega
set_option maxRecDepth 100000 in
theorem solve_ex (fb:Nat) (m:Nat) (A:Option Addr) (c:Nat) (bl:List BlockS) (hpos:0 < bl.length) (hlen:bl.length≤100000) (hm:m≤1000000) (htg:tgtOK bl) (hb4:∀ b∈bl,b.ins.length≤1000000) (hb5:∀ b∈bl,∀ x∈b.ins,x.ok∧x.dst < (m:Int)) (h:Hp) (hf:FAt h fb (m:Int) A c bl) :
 EX Tryd.prog 79 [.pointer (some ⟨fb,0,none⟩)] h (fun v h'=>∃ sb ib nb al s',v=.pointer (some ⟨sb,0,none⟩)∧SolRun bl (sol0 bl.length m) s'∧SolI bl m s'∧GoodS s'∧SolAt h' h.n sb fb ib nb al bl.length s'∧Old h h'):=by
 refine EX.intro (fn:=Tryd.f79) (c:=(Tryd.f79.body.getD .skip)) Tryd.func79 (by kernel_rfl) Tryd.ntmps79 (by kernel_rfl) fun π s0=>?_
 conv=>arg 2;whnf
 have hd:=s0.dom
 obtain ⟨fcs,hF,h3,h5⟩:=hf.hf
 have hFn:=s0.dom _ _ hF
 ((with_reducible apply W.seq);repeat (first|refine Y19 ?_|refine Y0 ?_|refine Y1 ?_|refine Yu ?_))
 ((with_reducible apply W.seq);repeat (first|refine Y5e ?_|refine Yd ?_|refine Y0 ?_|refine Y1 ?_|refine Yu ?_))
 ((with_reducible apply W.seq);repeat (first|refine Y36 ?_|((with_reducible apply RS.makeSliceF);(iterate 6 exact rfl);first|omega;exact rep_nil _;(intro u hu;rw [List.eq_of_mem_replicate hu];exact bnd_slice_none _ _ _)|omega;exact rep_bool _;(intro u hu;obtain ⟨_,_,rfl⟩:=List.mem_map.1 hu;simp))|((with_reducible first|apply RS.move|apply RS.assign|apply RS.box);iterate 3 exact rfl)|refine Y11 ?_|refine Y0 ?_|refine Y1 ?_|refine Yu ?_))
 ((with_reducible apply W.seq);repeat (first|refine Y5e ?_|((with_reducible apply RS.makeSliceF);(iterate 6 exact rfl);omega;exact rep_fact _;exact factsC_free _)|refine Y15 ?_|refine Y0 ?_|refine Y1 ?_|refine Yu ?_))
 refine W.absorbX fun B0 π0 a0=>?_
 have m0:B0.m (π 0)=some ⟨⟨List.replicate bl.length (.slice none 0 0)⟩,143⟩:=a0.loc 0 (by decide:(0:Nat) < 4)
 have m1:B0.m (π 1)=some ⟨⟨(List.replicate bl.length false).map .bool⟩,4⟩:=a0.loc 1 (by decide:(1:Nat) < 4)
 have m2:B0.m (π 2)=some ⟨⟨[.pointer (some ⟨fb,0,none⟩),.slice (some ⟨π 0,0,none⟩) bl.length bl.length,.slice (some ⟨π 1,0,none⟩) bl.length bl.length,.slice none 0 0]⟩,141⟩:=a0.loc 2 (by decide:(2:Nat) < 4)
 have m3:B0.m (π 3)=some ⟨⟨factsC (List.replicate m noF)⟩,145⟩:=a0.loc 3 (by decide:(3:Nat) < 4)
 have g0:h.n≤π 0:=a0.lo 0 (by decide:(0:Nat) < 4)
 have g1:h.n≤π 1:=a0.lo 1 (by decide:(1:Nat) < 4)
 have g2:h.n≤π 2:=a0.lo 2 (by decide:(2:Nat) < 4)
 have g3:h.n≤π 3:=a0.lo 3 (by decide:(3:Nat) < 4)
 generalize π 0=ib at *
 generalize π 1=nb at *
 generalize π 2=sb at *
 generalize π 3=q at *
 have hrw:=s0.rw
 have hqr:rwM≤q:=Nat.le_trans hrw g3
 rw [rows_nil] at m0
 repeat (first|refine Y36 ?_|refine Y54 ?_|refine Y0 ?_|refine Y13 ?_|refine Y1 ?_)
 refine W.loopN (X:=Nat) (fun i=>[(0,.pointer (some ⟨fb,0,none⟩)),(4,.pointer (some ⟨sb,0,none⟩)),(5,.slice (some ⟨q,0,none⟩) m m),(31,.int .i64 (m:Int)),(32,.int .i64 (i:Int))])
  (fun i B=>i≤m∧OffS (fun j=>j=q) B0 B∧B.m q=some ⟨⟨factsC (List.replicate i anyF++List.replicate (m - i) noF)⟩,145⟩) (fun i=>m - i)
  (fun B' x=>⟨0,?_,⟨Nat.zero_le _,x.oldH.off,x.up _ _ m3⟩⟩) ?_
 ·(repeat' (first|exact trivial|exact rfl|apply And.intro));done
 rintro i B π1 sB ⟨hi,hoff,hQ⟩
 have hQn:=sB.dom _ _ hQ
 by_cases hlt:i < m
 ·have hle:0+i * 2+2≤(factsC (List.replicate i anyF++List.replicate (m - i) noF)).length:=by rw [factsC_length];simp;omega
  have hset:setL (factsC (List.replicate i anyF++List.replicate (m - i) noF)) (0+i * 2) (factC anyF)=factsC (List.replicate (i+1) anyF++List.replicate (m - (i+1)) noF):=by
   rw [factsC_set (by simp;omega),fill_set m i hlt]
  repeat (first|refine Y36 ?_|refine Y3s ?_|((with_reducible apply RS.storeB);(iterate 3 exact rfl);exact hQ;exact hQn;exact hqr;exact hle;(iterate 2 exact rfl);exact hset)|refine Yc ?_|refine Y3 ?_|refine Yb ?_|refine Y11 ?_|refine Y0 ?_|refine Yj ?_|refine Y1 ?_|refine Y6 ?_)
  refine roundN_n rfl fun B' x=>⟨i+1,?_,⟨hlt,(hoff.trans (OffS.set B q _) fun j _ e=>e).same x.oldH.off,x.up _ _ (by show (if q=q then _ else _)=_;rw [if_pos rfl])⟩,by omega⟩
  (repeat' (first|exact trivial|exact rfl|apply And.intro));done
 ·have him:i=m:=by omega
  subst him
  rw [Nat.sub_self,List.replicate_zero,List.append_nil] at hQ
  have keep0:∀ {j:Nat} {x:Blk},B0.m j=some x→x.elem≠145→B.m j=some x:=by
   intro j x hx he
   rw [hoff.2 j (a0.dom _ _ hx) (ne_of_elem hx m3 he)];exact hx
  have old0:Old h B:=⟨Nat.le_trans a0.oldH.1 hoff.1,fun j hj=>by rw [hoff.2 j (Nat.lt_of_lt_of_le hj a0.oldH.1) (by omega),a0.oldH.2 j hj]⟩
  have hz:∀ (j:Nat) (l:List FactS),(List.replicate bl.length ([]:List FactS))[j]?=some l→l=[]:=fun j l hl=>by
   rw [List.getElem?_replicate] at hl
   split at hl
   ·injection hl with hl;exact hl.symm
   ·cases hl
  have o0:SolAt B h.n sb fb ib nb (List.replicate bl.length 0) bl.length ⟨List.replicate bl.length [],List.replicate bl.length false,[]⟩ :=
   ⟨hrw,by simp,by simp,by simp,g2,g0,g1,keep0 m0 (by simp),keep0 m1 (by simp),fun i a l _ hl hn=>absurd (hz i l hl) hn,fun i j a l l' _ _ hl _ hn _=>absurd (hz i l hl) hn,⟨none,0,keep0 m2 (by simp),.nil,fun a ha=>by cases ha⟩⟩
  have w0:SolW bl.length i ⟨List.replicate bl.length [],List.replicate bl.length false,[]⟩:=by
   refine ⟨by simp,by simp,fun k l _ hk=>?_,fun k hk=>by cases hk⟩
   have hk:(List.replicate bl.length false)[k]?=some true:=hk
   rw [List.getElem?_replicate] at hk
   split at hk<;>simp at hk
  have hre:∀ B1,Absb (P:=Tryd.prog) ⟨B,π1,0,[]⟩ B1→EX Tryd.prog 96 [.pointer (some ⟨sb,0,none⟩),.int .i64 0,.slice (some ⟨q,0,none⟩) i i] B1 (fun v h'=>v=.tuple #[]∧ReachQ B1 h.n sb fb ib nb (List.replicate bl.length 0) bl.length ⟨List.replicate bl.length [],List.replicate bl.length false,[]⟩ (sol0 bl.length (i:Int)) h'):=fun B1 hB1=>by
   have:=reach_ex sb fb ib nb _ bl.length _ 0 (List.replicate i anyF) (some ⟨q,0,none⟩) i h.n i (by omega) (by omega) hlen (by simpa using hm) (by simp) w0 (by simp) B1 (o0.up hB1.up) (.some (hB1.up _ _ hQ) hqr) (fun x hx j l hl1 hl2=>hz j l hl2)
   rw [List.length_replicate] at this
   unfold sol0
   rw [Int.toNat_natCast]
   exact this
  have hI0:=sol0_ok hpos (i:Int)
  rw [Int.toNat_natCast] at hI0
  have hG0:GoodS ⟨List.replicate bl.length [],List.replicate bl.length false,[]⟩:=⟨fun l hl=>(by rw [List.eq_of_mem_replicate hl];exact fun f hf=>absurd hf List.not_mem_nil),fun l hl=>(by rw [List.eq_of_mem_replicate hl];exact fun f hf=>absurd hf List.not_mem_nil)⟩
  have hgl:=reachF_left w0 hG0 (l:=List.replicate i anyF) (by simp) (fun f hf=>by rw [List.eq_of_mem_replicate hf];exact fit0) (fun f hf=>.inl (List.eq_of_mem_replicate hf)) (k:=0) (by omega) (by omega)
  have hG1:GoodS (sol0 bl.length (i:Int)):=by unfold sol0;rw [Int.toNat_natCast];exact hgl.1
  have hL1:leftS i (sol0 bl.length (i:Int))≤1000000000000:=by
   have h1:leftS i (sol0 bl.length (i:Int))≤leftS i ⟨List.replicate bl.length [],List.replicate bl.length false,[]⟩:=by unfold sol0;rw [Int.toNat_natCast];exact hgl.2
   have h2:=costV_le i (List.replicate bl.length []) (List.replicate bl.length false) (fun l hl=>by rw [List.eq_of_mem_replicate hl];exact Nat.zero_le _)
   rw [List.length_replicate] at h2
   have h3:bl.length * (i+1)≤100000 * 1000001:=Nat.mul_le_mul hlen (by omega)
   have h4:leftS i ⟨List.replicate bl.length [],List.replicate bl.length false,[]⟩=2 * (costV i (List.replicate bl.length []) (List.replicate bl.length false)).sum:=rfl
   omega
  repeat (first|((with_reducible apply RS.callEx);(iterate 3 exact rfl);intro B1 hB1;refine ⟨_,hre B1 hB1,?_⟩;rintro v H1 π1 ⟨rfl,al1,o1,ho1,hap1,hwp1⟩ sH1 hle1)|refine Y1m ?_|refine Y2 ?_|refine Y0 ?_|refine Y5b ?_|refine Y1 ?_|refine Y5 ?_|refine Yi ?_)
  refine W.loopN (X:=SolS × List Nat) (fun _=>[(0,.pointer (some ⟨fb,0,none⟩)),(4,.pointer (some ⟨sb,0,none⟩))])
   (fun x B=>SolAt B h.n sb fb ib nb x.2 bl.length x.1∧Old h B∧SolI bl i x.1∧GoodS x.1∧(∀ s',SolRun bl x.1 s'→SolRun bl (sol0 bl.length (i:Int)) s')∧leftS i x.1≤1000000000000) (fun x=>leftS i x.1)
   (fun B' x=>⟨(sol0 bl.length (i:Int),al1),?_,⟨o1.up x.up,?_,hI0,hG1,fun _ h=>h,hL1⟩⟩) ?_
  ·(repeat' (first|exact trivial|exact rfl|apply And.intro));done
  ·exact (oldN (old0.trans hB1.oldH) ho1).trans x.oldH
  rintro ⟨s,al⟩ B2 π2 sB2 ⟨hO,hold,hI,hG',hrun,hleft⟩
  dsimp only at hO hold hI hG' hrun hleft ⊢
  obtain ⟨A2,cap2,hS,hstk,hA2⟩:=hO.stk
  have hSn:=sB2.dom _ _ hS
  cases hwk:s.work with
  | nil =>
   rw [hwk,List.length_nil] at hS
   repeat (first|refine Y2q ?_|refine Yd ?_|refine Y2 ?_|refine Y0 ?_|refine Y20 ?_|refine Y1 ?_|refine Y5 ?_|refine Yi ?_)
   refine endsK_ret _ (.cons (.tmp rfl) .nil) fun B' x=>⟨sb,ib,nb,al,s,rfl,hrun s (.stop hwk),hI,hG',hO.up x.up,hold.trans x.oldH⟩
  | cons k w =>
   rw [hwk,List.length_cons] at hS
   rw [hwk,intsV_cons] at hstk
   have hwl:w.length≤1000000000000:=by
    have:leftS i s=2 * (costV i s.ins s.seen).sum+s.work.length:=rfl
    rw [hwk,List.length_cons] at this
    omega
   obtain ⟨r,t,rfl,hr0,hrr,hrc⟩:=stk_lt hstk (by simp)
   have hrn:=sB2.dom _ _ hr0
   have hat:(intsV w++[Value.int .i64 k]++t)[0+w.length * 1]?=some (.int .i64 k):=by
    have:=intsV_length w
    rw [List.append_assoc,List.getElem?_append_right (by omega)]
    simp
   have hle:w.length≤(intsV w++[Value.int .i64 k]++t).length:=by simp
   have hcap:cap2=capOf 1∨(w.length≤cap2∧cap2 < capMark):=by
    rcases hrc with hc|⟨hc,hcm⟩
    ·exact .inl hc
    ·exact .inr ⟨by simp at hc;omega,hcm⟩
   have hsr:rwM≤sb:=Nat.le_trans hO.rw hO.gs
   obtain ⟨k0,k1,ks⟩:=hI.work k (by rw [hwk];simp)
   ((with_reducible apply W.seq);repeat (fail))
   ((with_reducible apply W.seq);repeat (first|refine Y2q ?_|refine Y1t ?_|refine Y3 ?_|refine Y0 ?_|refine Y1 ?_|(with_reducible first|apply W.block|apply W.skip|apply thenK_n)|refine Y6 ?_))
   ((with_reducible apply W.seq);repeat (first|((with_reducible apply RS.load1B);(iterate 3 exact rfl);first|exact hS;exact hSn;exact rfl|exact hr0;exact hrn;exact hat)|refine Y8 ?_|refine Yd ?_|((with_reducible apply RS.sub1);(iterate 4 exact rfl);omega)|refine Y0 ?_|refine Y1 ?_|refine Yu ?_))
   ((with_reducible apply W.seq);repeat (first|refine Y2q ?_|((with_reducible apply RS.sliceStk);(iterate 4 exact rfl);exact hr0;exact hrn;exact hrr;exact hle;exact hcap)|((with_reducible apply RS.storeB);(iterate 3 exact rfl);exact hS;exact hSn;exact hsr;exact Nat.le_of_ble_eq_true rfl;iterate 3 exact rfl)|refine Y1t ?_|((with_reducible apply RS.sub1);(iterate 4 exact rfl);omega)|refine Y0 ?_|refine Y1 ?_|refine Yu ?_))
   refine W.absorbX fun B3 π3 a3=>?_
   have hSB:B3.m sb=some ⟨⟨[.pointer (some ⟨fb,0,none⟩),.slice (some ⟨ib,0,none⟩) bl.length bl.length,.slice (some ⟨nb,0,none⟩) bl.length bl.length,.slice (some ⟨r,0,none⟩) w.length cap2]⟩,141⟩:=a3.up sb _ (by show (if sb=sb then _ else _)=_;rw [if_pos rfl];rfl)
   have keep3:∀ {j:Nat} {x:Blk},B2.m j=some x→x.elem≠141→B3.m j=some x:=by
    intro j x hx he
    refine a3.up j x ?_
    show (if j=sb then _ else B2.m j)=_
    rw [if_neg (ne_of_elem hx hS he)];exact hx
   have old3:Old h B3:=by
    refine oldN hold (((OffS.set B2 sb _).mono fun j _ e=>?_).same a3.oldH.off)
    rw [e];exact hO.gs
   have o3:SolAt B3 h.n sb fb ib nb al bl.length ⟨s.ins,s.seen,w⟩:=hO.setWork (w:=w) (fun j b hb h1 h2=>keep3 hb h2) ⟨some ⟨r,0,none⟩,cap2,hSB,.row (t:=.int .i64 k::t) (by rw [keep3 hr0 (by simp)];simp) hrr (by
    rcases hrc with hc|⟨hc,hcm⟩
    ·exact .inl hc
    ·exact .inr ⟨by simp at hc ⊢;omega,hcm⟩),hA2⟩
   have hknat:k=(k.toNat:Int):=by omega
   have hklt:k.toNat < bl.length:=by omega
   obtain ⟨l0,hl0⟩:∃ l,s.ins[k.toNat]?=some l:=⟨_,List.getElem?_eq_getElem (by rw [hI.ins];exact hklt)⟩
   obtain ⟨qa,hqa⟩:∃ a,al[k.toNat]?=some a:=⟨_,List.getElem?_eq_getElem (by rw [hO.alen];exact hklt)⟩
   have hl0n:l0.length=i:=hI.wid _ _ hl0 ks
   have hrow:=rowsV_get hqa hl0
   obtain ⟨A5,c5,hv5,hA5⟩:∃ A5 c5,rowVl 2 qa l0=.slice A5 i c5∧(i≠0→A5=some ⟨qa,0,none⟩):=by
    rw [rowVl_eq,hl0n]
    exact ⟨_,_,rfl,fun hn=>by rw [if_neg (fun e=>hn (by rw [← hl0n,e];rfl))]⟩
   rw [hv5] at hrow
   have hI3:=o3.hi
   have hI3n:=a3.dom _ _ hI3
   have hS3n:=a3.dom _ _ hSB
   have hrow5:∀ B,Absb (P:=Tryd.prog) ⟨B3,π3,0,[]⟩ B→i≠0→∃ b off cs e2,A5=some ⟨b,off,none⟩∧B.m b=some ⟨⟨cs⟩,e2⟩∧off+i * 2≤cs.length∧takeV off (i * 2) cs=factsC l0:=fun B hB hn=>by
    have hne:l0≠[]:=fun e=>hn (by rw [← hl0n,e];rfl)
    have h1:=(o3.row _ _ _ hqa hl0 hne).2
    refine ⟨qa,0,factsC l0,_,hA5 hn,hB.up _ _ h1,by rw [factsC_length,hl0n];omega,?_⟩
    rw [takeV_eq,List.drop_zero,List.take_of_length_le (by rw [factsC_length,hl0n];exact Nat.le_refl _)]
   ((with_reducible apply W.seq);repeat (first|refine Y36 ?_|((with_reducible apply RS.load1B);(iterate 3 exact rfl);first|exact hSB;exact hS3n;exact rfl|exact hI3;exact hI3n;exact cells_at hrow)|refine Y4u ?_|((with_reducible apply RS.copyNil (vs:=factsC l0));(iterate 6 exact rfl);exact hrow5;omega;omega;intro B5 hB5 A6 c6 H6 π6 sH6 hz6 hn6 hle6 hoff6)|refine Y15 ?_|refine Y0 ?_|refine Y1 ?_|refine Yu ?_))
   have old6:Old B3 H6:=hB5.oldH.trans ⟨hle6,hoff6⟩
   have o6:=o3.up (old6.up a3.dom)
   have hd6:=sH6.dom
   have hfa6:FaAt H6 A6 l0:=by
    by_cases hn:i=0
    ·have:l0=[]:=List.length_eq_zero_iff.1 (hl0n.trans hn)
     rw [this,(hz6 hn).1];exact .none
    ·obtain ⟨r6,e1,_,e3,e4⟩:=hn6 hn
     rw [e1]
     exact .some e4 (Nat.le_trans hrw (Nat.le_trans old3.1 (Nat.le_trans hB5.le e3)))
   have hge6:∀ x,A6=some x→B3.n≤x.block:=fun x hx=>by
    by_cases hn:i=0
    ·rw [(hz6 hn).1] at hx;cases hx
    ·obtain ⟨r6,e1,_,e3,_⟩:=hn6 hn
     rw [e1] at hx
     injection hx with hx
     rw [← hx];exact Nat.le_trans hB5.le e3
   have hap6:∀ x,A6=some x→ApartF al s.ins x.block:=fun x hx j l h1 h2=>by
    cases l with
    | nil=>rfl
    | cons f l =>
     have:=a3.dom _ _ (o3.row j _ _ h1 h2 (by simp)).2
     have:=hge6 x hx
     omega
   have hN6:∀ x,A6=some x→h.n≤x.block:=fun x hx=>Nat.le_trans old3.1 (hge6 x hx)
   have oldh6:=old3.trans old6
   have hf6:=hf.up (oldh6.up hd)
   obtain ⟨fcs6,hF6,_,h56⟩:=hf6.hf
   have hF6n:=hd6 _ _ hF6
   obtain ⟨b,hb⟩:∃ b,bl[k.toNat]?=some b:=⟨_,List.getElem?_eq_getElem hklt⟩
   have hbm:=List.mem_of_getElem? hb
   obtain ⟨gb,go,gcs,ge,rfl,hG0,hGl,Ai,ci,hGb,hins⟩:=hf.sl.get _ b hb
   have hG:=oldh6.up hd _ _ hG0
   have hGn:=hd6 _ _ hG
   have hib:=hb4 b hbm
   repeat (first|refine Y36 ?_|refine Y4u ?_|((with_reducible apply RS.load1B);(iterate 3 exact rfl);first|exact hF6;exact hF6n;exact h56|exact hG;exact hGn;exact take_nth (j:=0) hGb rfl)|refine Y1t ?_|refine Y0 ?_|refine Y13 ?_|refine Y1 ?_)
   refine W.loopN (X:=Nat) (fun j=>[(0,.pointer (some ⟨fb,0,none⟩)),(4,.pointer (some ⟨sb,0,none⟩)),(7,.int .i64 k),(8,.slice A6 i c6),(90,.slice Ai b.ins.length ci),(91,.int .i64 (b.ins.length:Int)),(92,.int .i64 (j:Int))])
    (fun j B=>j≤b.ins.length∧SolAt B h.n sb fb ib nb al bl.length ⟨s.ins,s.seen,w⟩∧OffS (fun j=>B3.n≤j) H6 B∧FaAt B A6 ((b.ins.take j).foldl stepF l0)) (fun j=>b.ins.length - j)
    (fun B' x=>⟨0,?_,⟨Nat.zero_le _,o6.up x.up,x.oldH.off,hfa6.up x.up⟩⟩) ?_
   ·(repeat' (first|exact trivial|exact rfl|apply And.intro));done
   rintro j B7 π7 sB7 ⟨hj,o7,off7,hfa7⟩
   have oldB7:Old h B7:=oldM oldh6 off7 old3.1
   have hclen:((b.ins.take j).foldl stepF l0).length=i:=by rw [stepsF_length];exact hl0n
   have hoks:∀ x∈b.ins,x.ok:=fun x hx=>(hb5 b hbm x hx).1
   have hcfit:FitF ((b.ins.take j).foldl stepF l0):=stepsF_fit _ _ (hG'.fit _ (List.mem_of_getElem? hl0)) fun x hx=>hoks x (List.mem_of_mem_take hx)
   by_cases hjl:j < b.ins.length
   ·obtain ⟨x,hx⟩:∃ x,b.ins[j]?=some x:=⟨_,List.getElem?_eq_getElem hjl⟩
    have hxm:=List.mem_of_getElem? hx
    obtain ⟨xb,xo,xcs,xe,rfl,hX0,hXl,xA,xc,hXv,_⟩:=hins.get j x hx
    have hX:=oldB7.up hd _ _ hX0
    have hXn:=sB7.dom _ _ hX
    have hstep:∀ B8:Hp,(∀ i b,B7.m i=some b→B8.m i=some b)→EX Tryd.prog 97 [.slice A6 i c6,.agg ⟨insC x xA xc⟩] B8 (fun v h'=>v=.tuple #[]∧h'=faH B8 A6 (stepF ((b.ins.take j).foldl stepF l0) x)):=fun B8 hu=>by
     have:=step_tf _ A6 c6 x xA xc (by rw [hclen];omega) hcfit (hoks x hxm) (by rw [hclen];exact (hb5 b hbm x hxm).2) B8 (hfa7.up hu)
     rw [hclen] at this
     exact this.ex
    repeat (first|refine Y36 ?_|refine Y8 ?_|refine Y3e ?_|((with_reducible apply RS.callEx);(iterate 3 exact rfl);intro B8 hB8;refine ⟨_,hstep B8 hB8.up,?_⟩;rintro v H9 π9 ⟨rfl,rfl⟩ sH9 hle9)|refine Y1m ?_|refine Y3 ?_|refine Yb ?_|refine Ya ?_|refine Y4 ?_|refine Yf ?_|refine Y0 ?_|refine Yj ?_|refine Y1 ?_|refine Y6 ?_)
    have hfa8:=hfa7.up hB8.up
    have hnext:(b.ins.take (j+1)).foldl stepF l0=stepF ((b.ins.take j).foldl stepF l0) x:=by
     rw [List.take_add_one,hx,List.foldl_append];rfl
    refine roundN_n rfl fun B' y=>⟨j+1,?_,⟨hjl,((o7.up hB8.up).apart hfa8 hap6).up y.up,((off7.same hB8.oldH.off).same (faH_off hfa8 hge6)).same y.oldH.off,?_⟩,by omega⟩
    ·(repeat' (first|exact trivial|exact rfl|apply And.intro));done
    ·rw [hnext]
     exact (hfa8.set (stepF_length _ _)).up y.up
   ·have hjj:j=b.ins.length:=by omega
    subst hjj
    rw [List.take_length] at hfa7 hclen hcfit
    obtain ⟨lo,hlo⟩:∃ lo,b.ins.foldl stepF l0=lo:=⟨_,rfl⟩
    rw [hlo] at hfa7 hclen hcfit
    have hlowf:WfF lo:=by rw [← hlo];exact stepsF_wf _ _ (hG'.wf _ (List.mem_of_getElem? hl0))
    have hG7:=oldB7.up hd _ _ hG0
    have hG7n:=sB7.dom _ _ hG7
    have hF7:=oldB7.up hd _ _ hF
    have hF7n:=sB7.dom _ _ hF7
    have hGv:takeV (go+k.toNat * 9+1) 8 gcs=termC b.term:=takeV_part (n:=8) hGb (by decide)
    have hGl1:go+k.toNat * 9+1+8≤gcs.length:=by omega
    obtain ⟨outs,houts⟩:∃ outs,nextF b.term lo=outs:=⟨_,rfl⟩
    have hnx:∀ B8:Hp,(∀ i b,B7.m i=some b→B8.m i=some b)→EX Tryd.prog 84 [.agg ⟨termC b.term⟩,.slice A6 i c6] B8 (fun v h'=>∃ A' c',v=.slice A' outs.length c'∧IntAt h' A' outs∧Old B8 h'∧∀ a,A'=some a→B8.n≤a.block):=fun B8 hu=>by
     have:=fnext_ex b.term lo A6 c6 (by rw [hclen];omega) B8 (hfa7.up hu)
     rw [hclen,houts] at this
     exact this
    have houtn:outs.length≤2:=by
     rw [← houts];unfold nextF nextS
     repeat' split
     all_goals simp
    have hkl:∀ o∈outs,0≤o∧o < bl.length:=fun o ho=>htg b hbm o (nextF_sub o (by rw [houts];exact ho))
    have w1:SolW bl.length i ⟨s.ins,s.seen,w⟩:=⟨hI.ins,hI.seen,hI.wid,fun j hj=>hI.work j (by rw [hwk];simp [hj])⟩
    have hG1':GoodS ⟨s.ins,s.seen,w⟩:=⟨hG'.fit,hG'.wf⟩
    have hlp:=leftS_pop (r:=i) hwk
    repeat (first|refine Y36 ?_|refine Y4u ?_|((with_reducible apply RS.load1B);(iterate 3 exact rfl);exact hF7;exact hF7n;exact h5)|((with_reducible apply RS.loadNB);(iterate 3 exact rfl);exact hG7;exact hG7n;exact hGl1;exact hGv)|((with_reducible apply RS.callEx);(iterate 3 exact rfl);intro B8 hB8;refine ⟨_,hnx B8 hB8.up,?_⟩;rintro v H9 π9 ⟨AL,cL,rfl,hil,ho9,hnew9⟩ sH9 hle9)|refine Y1t ?_|refine Y2 ?_|refine Y0 ?_|refine Y5b ?_|refine Y1 ?_|refine Y5 ?_|refine Yi ?_)
    have old9:Old B7 H9:=hB8.oldH.trans ho9
    have o9:=(o7.up (old9.up sB7.dom))
    refine W.loopN (X:=Nat × List Nat) (fun x=>[(0,.pointer (some ⟨fb,0,none⟩)),(4,.pointer (some ⟨sb,0,none⟩)),(8,.slice A6 i c6),(109,.slice AL outs.length cL),(110,.int .i64 (outs.length:Int)),(111,.int .i64 (x.1:Int))])
     (fun x B=>x.1≤outs.length∧SolAt B h.n sb fb ib nb x.2 bl.length ((outs.take x.1).foldl (reachF lo) ⟨s.ins,s.seen,w⟩)∧Old h B∧FaAt B A6 lo∧(∀ z,A6=some z→ApartF x.2 ((outs.take x.1).foldl (reachF lo) ⟨s.ins,s.seen,w⟩).ins z.block)∧IntAt B AL outs∧∀ a,AL=some a→ApartW B sb a.block) (fun x=>outs.length - x.1)
     (fun B' y=>⟨(0,al),?_,⟨Nat.zero_le _,o9.up y.up,(oldB7.trans old9).trans y.oldH,(hfa7.up (old9.up sB7.dom)).up y.up,hap6,hil.up y.up,fun a ha f g e A n c el hm hA=>?_⟩⟩) ?_
    ·(repeat' (first|exact trivial|exact rfl|apply And.intro));done
    ·obtain ⟨A9,cap9,hS9,hstk9,_⟩:=o7.stk
     have h1:=y.up _ _ (old9.up sB7.dom _ _ hS9)
     rw [h1] at hm
     injection hm with hm
     injection hm with hm _
     injection hm with hm
     simp only [List.cons.injEq,Value.slice.injEq] at hm
     have hAA:A9=A:=hm.2.2.2.1.1
     rw [← hAA] at hA
     subst hA
     cases hstk9 with
     | row hm9 _ _ =>
      have:=sB7.dom _ _ hm9
      have h2:=hnew9 a ha
      have h3:=hB8.le
      dsimp only at h3
      omega
    rintro ⟨j,al2⟩ B10 π10 sB10 ⟨hj,o10,old10,hfa10,hap10,hil10,hwp10⟩
    dsimp only at hj o10 old10 hfa10 hap10 hil10 hwp10 ⊢
    obtain ⟨w10,u10,_⟩:=reachFs_ok (l:=lo) hclen (outs.take j) _ w1 fun o ho=>hkl o (List.mem_of_mem_take ho)
    obtain ⟨g10,l10⟩:=reachFs_left (l:=lo) hclen hcfit hlowf (outs.take j) _ w1 hG1' fun o ho=>hkl o (List.mem_of_mem_take ho)
    by_cases hjl:j < outs.length
    ·obtain ⟨o,ho⟩:∃ o,outs[j]?=some o:=⟨_,List.getElem?_eq_getElem hjl⟩
     obtain ⟨ho0,ho1⟩:=hkl o (List.mem_of_getElem? ho)
     obtain ⟨nr,hnr,hN⟩:∃ nr,AL=some ⟨nr,0,none⟩∧B10.m nr=some ⟨⟨outs.map (.int .i64)⟩,3⟩:=by
      rcases hil10 with e|e
      ·rw [e] at hjl;exact absurd hjl (Nat.not_lt_zero _)
      ·exact e
     subst hnr
     have hNn:=sB10.dom _ _ hN
     have hNv:(outs.map (Value.int .i64))[0+j * 1]?=some (.int .i64 o):=cells_at (by rw [List.getElem?_map,ho];rfl)
     have hwk10:((outs.take j).foldl (reachF lo) ⟨s.ins,s.seen,w⟩).work.length≤1000000000000:=by
      have h1:leftS i ((outs.take j).foldl (reachF lo) ⟨s.ins,s.seen,w⟩)=2 * (costV i ((outs.take j).foldl (reachF lo) ⟨s.ins,s.seen,w⟩).ins ((outs.take j).foldl (reachF lo) ⟨s.ins,s.seen,w⟩).seen).sum+((outs.take j).foldl (reachF lo) ⟨s.ins,s.seen,w⟩).work.length:=rfl
      omega
     have hrch:∀ B11:Hp,(∀ i b,B10.m i=some b→B11.m i=some b)→EX Tryd.prog 96 [.pointer (some ⟨sb,0,none⟩),.int .i64 o,.slice A6 i c6] B11 (fun v h'=>v=.tuple #[]∧ReachQ B11 h.n sb fb ib nb al2 bl.length ((outs.take j).foldl (reachF lo) ⟨s.ins,s.seen,w⟩) (reachF lo ((outs.take j).foldl (reachF lo) ⟨s.ins,s.seen,w⟩) o) h'):=fun B11 hu=>by
      have:=reach_ex sb fb ib nb al2 bl.length _ o lo A6 c6 h.n i ho0 ho1 hlen (by rw [hclen];exact hm) hwk10 w10 hclen B11 (o10.up hu) (hfa10.up hu) hap10
      rw [hclen] at this
      exact this
     have hnext:(outs.take (j+1)).foldl (reachF lo) ⟨s.ins,s.seen,w⟩=reachF lo ((outs.take j).foldl (reachF lo) ⟨s.ins,s.seen,w⟩) o:=by
      rw [List.take_add_one,ho,List.foldl_append];rfl
     repeat (first|refine Y36 ?_|refine Y8 ?_|((with_reducible apply RS.load1B);(iterate 3 exact rfl);exact hN;exact hNn;exact hNv)|((with_reducible apply RS.callEx);(iterate 3 exact rfl);intro B11 hB11;refine ⟨_,hrch B11 hB11.up,?_⟩;rintro v H12 π12 ⟨rfl,al12,o12,ho12,hap12,hwp12⟩ sH12 hle12)|refine Yc ?_|refine Y3 ?_|refine Yb ?_|refine Y0 ?_|refine Yj ?_|refine Y1 ?_|refine Y6 ?_)
     refine roundN_n rfl fun B' y=>⟨(j+1,al12),?_,⟨hjl,?_,(oldN (old10.trans hB11.oldH) ho12).trans y.oldH,?_,fun z hz=>?_,?_,fun a ha=>?_⟩,by dsimp only;omega⟩
     ·(repeat' (first|exact trivial|exact rfl|apply And.intro));done
     ·dsimp only;rw [hnext];exact o12.up y.up
     ·have h1:=hfa10.up hB11.up
      cases h1 with
      | none=>exact .none
      | some hm1 hr1=>exact .some (y.up _ _ (hap12 _ _ hm1 rfl (hap10 _ rfl)).1) hr1
     ·dsimp only;rw [hnext]
      have h1:=hfa10.up hB11.up
      cases h1 with
      | none=>cases hz
      | some hm1 hr1 =>
       injection hz with hz
       subst hz
       exact (hap12 _ _ hm1 rfl (hap10 _ rfl)).2
     ·exact .inr ⟨nr,rfl,y.up _ _ (hwp12 nr _ (hB11.up _ _ hN) rfl (hwU hB11.up o10 (hwp10 _ rfl))).1⟩
     ·injection ha with ha
      subst ha
      exact hwU y.up o12 (hwp12 nr _ (hB11.up _ _ hN) rfl (hwU hB11.up o10 (hwp10 _ rfl))).2
    ·have hjj:j=outs.length:=by omega
     subst hjj
     rw [List.take_length] at o10 w10 g10 l10
     have hround:roundF bl ⟨s.ins,s.seen,w⟩ k=outs.foldl (reachF lo) ⟨s.ins,s.seen,w⟩:=by
      have ho:outF bl ⟨s.ins,s.seen,w⟩ k=lo:=by unfold outF;rw [hb];dsimp only;rw [hl0];exact hlo
      unfold roundF
      rw [hb];dsimp only
      rw [ho,houts]
     rw [← hround] at o10 g10 l10
     repeat (first|refine Y2 ?_|refine Y0 ?_|refine Y45 ?_|refine Y1 ?_|refine Y5 ?_|refine Yi ?_)
     refine roundN_n rfl fun B' y=>⟨(roundF bl ⟨s.ins,s.seen,w⟩ k,al2),?_,⟨o10.up y.up,old10.trans y.oldH,roundF_ok htg hI hwk,g10,fun s' hs'=>hrun s' (.go hwk hs'),by dsimp only;omega⟩,by dsimp only;omega⟩
     (repeat' (first|exact trivial|exact rfl|apply And.intro));done
def mixL {α:Type} (a b:List α) (k:Nat):List α:=a.take k++b.drop k
theorem mixL_zero {α:Type} (a b:List α):mixL a b 0=b:=by simp [mixL]
theorem mixL_all {α:Type} {a b:List α} (h:a.length=b.length):mixL a b b.length=a:=by
 unfold mixL
 rw [← h,List.take_length,h,List.drop_length,List.append_nil]
theorem mixL_length {α:Type} {a b:List α} (h:a.length=b.length) (k:Nat):(mixL a b k).length=b.length:=by
 unfold mixL
 simp;omega
theorem mixL_get {α:Type} {a b:List α} (h:a.length=b.length) (k i:Nat):(mixL a b k)[i]?=if i < k then a[i]? else b[i]?:=by
 unfold mixL
 by_cases hk:k≤a.length
 ·by_cases hi:i < k
  ·rw [if_pos hi,List.getElem?_append_left (by simp;omega),List.getElem?_take,if_pos hi]
  ·rw [if_neg hi,List.getElem?_append_right (by simp;omega),List.getElem?_drop]
   congr 1
   simp;omega
 ·rw [List.take_of_length_le (by omega),List.drop_eq_nil_of_le (by omega),List.append_nil]
  split
  ·rfl
  ·rw [List.getElem?_eq_none_iff.2 (by omega),List.getElem?_eq_none_iff.2 (by omega)]
theorem mixL_at {α:Type} {a b:List α} (h:a.length=b.length) (k:Nat):(mixL a b k)[k]?=b[k]?:=by rw [mixL_get h,if_neg (Nat.lt_irrefl _)]
theorem mixL_set {α:Type} {a b:List α} (h:a.length=b.length) {k:Nat} {x:α} (hx:a[k]?=some x):(mixL a b k).set k x=mixL a b (k+1):=by
 have hk:=(List.getElem?_eq_some_iff.1 hx).1
 apply List.ext_getElem?
 intro i
 rw [List.getElem?_set,mixL_length h,mixL_get h,mixL_get h]
 by_cases e:k=i
 ·subst e
  rw [if_pos rfl,if_pos (by omega),if_pos (by omega),hx]
 ·rw [if_neg e]
  by_cases h1:i < k
  ·rw [if_pos h1,if_pos (by omega)]
  ·rw [if_neg h1,if_neg (by omega)]
structure OwnA (h:Hp) (N bb:Nat) (bv:List BV):Prop where
 rw:rwM≤N
 ge:N≤bb
 m:h.m bb=some ⟨⟨(bv.map BV.c).flatten⟩,50⟩
 row:∀ b∈bv,b.ins≠[]→N≤b.r∧h.m b.r=some ⟨⟨(b.ins.map insVC).flatten⟩,58⟩
 arg:∀ b∈bv,∀ x∈b.ins,x.1.args≠[]→N≤x.2∧h.m x.2=some ⟨⟨argsC x.1.args⟩,46⟩
 sep:∀ (i j:Nat) (x y:BV),bv[i]?=some x→bv[j]?=some y→x.ins≠[]→y.ins≠[]→x.r=y.r→i=j
 sepA:∀ (i j k m:Nat) (x y:BV) (u v:InsV),bv[i]?=some x→bv[j]?=some y→x.ins[k]?=some u→y.ins[m]?=some v→u.1.args≠[]→v.1.args≠[]→u.2=v.2→i=j∧k=m
theorem OwnD.ownA {h:Hp} {N bb:Nat} {bv:List BV} (o:OwnD h N bv) (hN:rwM≤N) (hb:N≤bb) (hm:h.m bb=some ⟨⟨(bv.map BV.c).flatten⟩,50⟩):OwnA h N bb bv:=by
 have ow:=o.own hN (Nat.le_trans hN hb) hm
 refine ⟨hN,hb,hm,o.row,o.arg,ow.sep,?_⟩
 obtain ⟨p1,p2⟩:=List.pairwise_flatMap.1 o.sepA
 have lt:∀ (i j k m:Nat) (x y:BV) (u v:InsV),i < j→bv[i]?=some x→bv[j]?=some y→x.ins[k]?=some u→y.ins[m]?=some v→u.1.args≠[]→v.1.args≠[]→u.2 < v.2:=by
  intro i j k m x y u v hij hx hy hu hv h1 h2
  obtain ⟨hi,hx'⟩:=List.getElem?_eq_some_iff.1 hx
  obtain ⟨hj,hy'⟩:=List.getElem?_eq_some_iff.1 hy
  have:=List.pairwise_iff_getElem.1 p2 i j hi hj hij
  rw [hx',hy'] at this
  exact this u (List.mem_of_getElem? hu) v (List.mem_of_getElem? hv) h1 h2
 have lt2:∀ (k m:Nat) (x:BV) (u v:InsV),x∈bv→k < m→x.ins[k]?=some u→x.ins[m]?=some v→u.1.args≠[]→v.1.args≠[]→u.2 < v.2:=by
  intro k m x u v hx hkm hu hv h1 h2
  obtain ⟨hk,hu'⟩:=List.getElem?_eq_some_iff.1 hu
  obtain ⟨hm,hv'⟩:=List.getElem?_eq_some_iff.1 hv
  have:=List.pairwise_iff_getElem.1 (p1 x hx) k m hk hm hkm
  rw [hu',hv'] at this
  exact this h1 h2
 intro i j k m x y u v hx hy hu hv h1 h2 he
 rcases Nat.lt_trichotomy i j with h3|h3|h3
 ·have:=lt i j k m x y u v h3 hx hy hu hv h1 h2;omega
 ·subst h3
  rw [hx] at hy
  injection hy with hy
  subst hy
  rcases Nat.lt_trichotomy k m with h4|h4|h4
  ·have:=lt2 k m x u v (List.mem_of_getElem? hx) h4 hu hv h1 h2;omega
  ·exact ⟨rfl,h4⟩
  ·have:=lt2 m k x v u (List.mem_of_getElem? hx) h4 hv hu h2 h1;omega
 ·have:=lt j i m k y x v u h3 hy hx hv hu h2 h1;omega
section
variable {h H:Hp} {N bb:Nat} {bv:List BV}
theorem OwnA.own (o:OwnA h N bb bv):OwnB h bb bv :=
 ⟨Nat.le_trans o.rw o.ge,o.m,fun b hb hn=>⟨Nat.le_trans o.rw (o.row b hb hn).1,(o.row b hb hn).2⟩,fun b hb x hx hn=>⟨Nat.le_trans o.rw (o.arg b hb x hx hn).1,(o.arg b hb x hx hn).2⟩,o.sep⟩
theorem OwnA.up (o:OwnA h N bb bv) (hu:∀ i b,h.m i=some b→H.m i=some b):OwnA H N bb bv :=
 ⟨o.rw,o.ge,hu _ _ o.m,fun b hb hn=>⟨(o.row b hb hn).1,hu _ _ (o.row b hb hn).2⟩,fun b hb x hx hn=>⟨(o.arg b hb x hx hn).1,hu _ _ (o.arg b hb x hx hn).2⟩,o.sep,o.sepA⟩
theorem OwnA.keep (o:OwnA h N bb bv) (hu:∀ i b,h.m i=some b→b.elem=50∨b.elem=58∨b.elem=46→H.m i=some b):OwnA H N bb bv :=
 ⟨o.rw,o.ge,hu _ _ o.m (.inl rfl),fun b hb hn=>⟨(o.row b hb hn).1,hu _ _ (o.row b hb hn).2 (.inr (.inl rfl))⟩,fun b hb x hx hn=>⟨(o.arg b hb x hx hn).1,hu _ _ (o.arg b hb x hx hn).2 (.inr (.inr rfl))⟩,o.sep,o.sepA⟩
theorem OwnA.setT (o:OwnA h N bb bv) {i:Nat} {b:BV} (hb:bv[i]?=some b) (t:TermS) (hm:H.m bb=some ⟨⟨((bv.set i { b with term:=t }).map BV.c).flatten⟩,50⟩) (hk:∀ j x,h.m j=some x→x.elem≠50→H.m j=some x) :
 OwnA H N bb (bv.set i { b with term:=t }):=by
 have hmem:=List.mem_of_getElem? hb
 have back:∀ {j:Nat} {x:BV},(bv.set i { b with term:=t })[j]?=some x→∃ x',bv[j]?=some x'∧x'.ins=x.ins∧x'.r=x.r:=by
  intro j x hx
  rcases set_get hx with ⟨e1,e2⟩|⟨_,e2⟩
  ·subst e1;subst e2;exact ⟨b,hb,rfl,rfl⟩
  ·exact ⟨x,e2,rfl,rfl⟩
 refine ⟨o.rw,o.ge,hm,fun x hx hn=>?_,fun x hx y hy hn=>?_,fun j k x y hx hy hxn hyn he=>?_,fun p j k m x y u v hx hy hu hv h1 h2 he=>?_⟩
 ·rcases mem_set hx with h1|h1
  ·exact ⟨(o.row x h1 hn).1,hk _ _ (o.row x h1 hn).2 (by simp)⟩
  ·subst h1
   exact ⟨(o.row b hmem hn).1,hk _ _ (o.row b hmem hn).2 (by simp)⟩
 ·rcases mem_set hx with h1|h1
  ·exact ⟨(o.arg x h1 y hy hn).1,hk _ _ (o.arg x h1 y hy hn).2 (by simp)⟩
  ·subst h1
   exact ⟨(o.arg b hmem y hy hn).1,hk _ _ (o.arg b hmem y hy hn).2 (by simp)⟩
 ·obtain ⟨x',h1,h2,h3⟩:=back hx
  obtain ⟨y',g1,g2,g3⟩:=back hy
  exact o.sep j k x' y' h1 g1 (by rw [h2];exact hxn) (by rw [g2];exact hyn) (by rw [h3,g3];exact he)
 ·obtain ⟨x',q1,q2,q3⟩:=back hx
  obtain ⟨y',g1,g2,g3⟩:=back hy
  exact o.sepA p j k m x' y' u v q1 g1 (by rw [q2];exact hu) (by rw [g2];exact hv) h1 h2 he
theorem setI_c (b:BV) (k:Nat) (y:InsV):BV.c { b with ins:=b.ins.set k y }=b.c:=by
 unfold BV.c
 rw [rowVl_eq,rowVl_eq]
 simp
theorem setI_cs {bv:List BV} {i k:Nat} {b:BV} (hb:bv[i]?=some b) (y:InsV):(bv.set i { b with ins:=b.ins.set k y }).map BV.c=bv.map BV.c:=by
 rw [List.map_set,setI_c]
 exact set_same (bv_at hb)
theorem OwnA.setX (o:OwnA h N bb bv) {i k:Nat} {b:BV} {x:InsV} (hb:bv[i]?=some b) (hx:b.ins[k]?=some x) (y:InsS) (hy:y.args≠[]→x.1.args≠[])
 (hrow:H.m b.r=some ⟨⟨((b.ins.set k (y,x.2)).map insVC).flatten⟩,58⟩) (harg:y.args≠[]→H.m x.2=some ⟨⟨argsC y.args⟩,46⟩)
 (hk:∀ j z,h.m j=some z→z.elem=50∨z.elem=58∨z.elem=46→j≠b.r→(x.1.args≠[]→j≠x.2)→H.m j=some z):OwnA H N bb (bv.set i { b with ins:=b.ins.set k (y,x.2) }):=by
 have hbm:=List.mem_of_getElem? hb
 have hbn:b.ins≠[]:=by intro e;rw [e] at hx;simp at hx
 have hxm:=List.mem_of_getElem? hx
 have hr:=(o.row b hbm hbn).2
 have ha:=fun hn=>(o.arg b hbm x hxm hn).2
 have back:∀ {j:Nat} {z:BV},(bv.set i { b with ins:=b.ins.set k (y,x.2) })[j]?=some z→∃ z',bv[j]?=some z'∧z'.r=z.r∧(z.ins≠[]→z'.ins≠[])∧((j=i∧z={ b with ins:=b.ins.set k (y,x.2) })∨(j≠i∧z=z')):=by
  intro j z hz
  rcases set_get hz with ⟨e1,e2⟩|⟨e1,e2⟩
  ·subst e1;subst e2;exact ⟨b,hb,rfl,fun _=>hbn,.inl ⟨rfl,rfl⟩⟩
  ·exact ⟨z,e2,rfl,id,.inr ⟨e1,rfl⟩⟩
 have backI:∀ {j m:Nat} {z:BV} {u:InsV},(bv.set i { b with ins:=b.ins.set k (y,x.2) })[j]?=some z→z.ins[m]?=some u→u.1.args≠[]→∃ z' u',bv[j]?=some z'∧z'.ins[m]?=some u'∧u'.2=u.2∧u'.1.args≠[]∧((j=i∧m=k∧u=(y,x.2))∨(¬ (j=i∧m=k)∧u=u')):=by
  intro j m z u hz hu hn
  obtain ⟨z',h1,_,_,h4⟩:=back hz
  rcases h4 with ⟨e1,e2⟩|⟨e1,e2⟩
  ·subst e1;subst e2
   rcases set_get hu with ⟨f1,f2⟩|⟨f1,f2⟩
   ·subst f1;subst f2
    exact ⟨b,x,hb,hx,rfl,hy hn,.inl ⟨rfl,rfl,rfl⟩⟩
   ·exact ⟨b,u,hb,f2,rfl,hn,.inr ⟨fun e=>f1 e.2,rfl⟩⟩
  ·subst e2
   exact ⟨z,u,h1,hu,rfl,hn,.inr ⟨fun e=>e1 e.1,rfl⟩⟩
 refine ⟨o.rw,o.ge,?_,fun z hz hn=>?_,fun z hz u hu hn=>?_,fun j p z w hz hw hzn hwn he=>?_,fun j p m q z w u v hz hw hu hv h1 h2 he=>?_⟩
 ·rw [setI_cs hb]
  refine hk _ _ o.m (.inl rfl) (ne_of_elem o.m hr (by simp)) fun hn=>ne_of_elem o.m (ha hn) (by simp)
 ·obtain ⟨j,hj⟩:=List.mem_iff_getElem?.1 hz
  obtain ⟨z',h1,h2,h3,h4⟩:=back hj
  rcases h4 with ⟨e1,e2⟩|⟨e1,e2⟩
  ·subst e2;exact ⟨(o.row b hbm hbn).1,hrow⟩
  ·subst e2
   have hzr:=o.row z (List.mem_of_getElem? h1) hn
   exact ⟨hzr.1,hk _ _ hzr.2 (.inr (.inl rfl)) (fun e=>e1 (o.sep j i z b h1 hb hn hbn e)) fun hn'=>ne_of_elem hzr.2 (ha hn') (by simp)⟩
 ·obtain ⟨j,hj⟩:=List.mem_iff_getElem?.1 hz
  obtain ⟨m,hm⟩:=List.mem_iff_getElem?.1 hu
  obtain ⟨z',u',h1,h2,h3,h4,h5⟩:=backI hj hm hn
  have hua:=o.arg z' (List.mem_of_getElem? h1) u' (List.mem_of_getElem? h2) h4
  rcases h5 with ⟨_,_,e⟩|⟨e1,e2⟩
  ·subst e
   exact ⟨(o.arg b hbm x hxm (hy hn)).1,harg hn⟩
  ·subst e2
   exact ⟨hua.1,hk _ _ hua.2 (.inr (.inr rfl)) (ne_of_elem hua.2 hr (by simp)) fun hn' e=>e1 (o.sepA j i m k z' b u x h1 hb h2 hx hn hn' e)⟩
 ·obtain ⟨z',h1,h2,h3,_⟩:=back hz
  obtain ⟨w',g1,g2,g3,_⟩:=back hw
  exact o.sep j p z' w' h1 g1 (h3 hzn) (g3 hwn) (by rw [h2,g2];exact he)
 ·obtain ⟨z',u',e1,e2,e3,e4,_⟩:=backI hz hu h1
  obtain ⟨w',v',f1,f2,f3,f4,_⟩:=backI hw hv h2
  exact o.sepA j p m q z' w' u' v' e1 f1 e2 f2 e4 f4 (by rw [e3,f3];exact he)
end
def insVs:List FactS→List InsV→List InsV
 | _,[]=>[]
 | l,x::xs=>(insF l x.1,x.2)::insVs (stepF l x.1) xs
theorem insVs_length:∀ (xs:List InsV) (l:List FactS),(insVs l xs).length=xs.length
 | [],_=>rfl
 | _::xs,l=>by simp [insVs,insVs_length xs]
theorem insVs_fst:∀ (xs:List InsV) (l:List FactS),(insVs l xs).map (·.1)=insFs l (xs.map (·.1))
 | [],_=>rfl
 | x::xs,l=>by simp [insVs,insFs,insVs_fst xs]
theorem insVs_get:∀ {xs:List InsV} {l:List FactS} {k:Nat} {x:InsV},xs[k]?=some x→(insVs l xs)[k]?=some (insF (((xs.take k).map (·.1)).foldl stepF l) x.1,x.2)
 | y::xs,l,0,x,h=>by
  simp only [List.getElem?_cons_zero,Option.some.injEq] at h
  subst h;rfl
 | y::xs,l,k+1,x,h=>by
  rw [insVs,List.getElem?_cons_succ,insVs_get (xs:=xs) (by simpa using h)]
  rfl
 | [],_,_,_,h=>by simp at h
def blockV (l:List FactS) (b:BV):BV:=⟨insVs l b.ins,b.r,termF ((b.ins.map (·.1)).foldl stepF l) b.term⟩
theorem blockV_s (l:List FactS) (b:BV):(blockV l b).s=blockF l b.s:=by
 unfold blockV blockF BV.s
 simp only [insVs_fst]
def foldVs:List BV→List (List FactS)→List Bool→List BV
 | b::bv,l::ls,s::ss=>(if s=true then blockV l b else b)::foldVs bv ls ss
 | bv,_,_=>bv
theorem foldVs_s:∀ (bv:List BV) (ls:List (List FactS)) (ss:List Bool),sL (foldVs bv ls ss)=foldB (sL bv) ls ss
 | [],[],_=>by simp [foldVs,foldB,sL]
 | [],_::_,[]=>by simp [foldVs,foldB,sL]
 | [],_::_,_::_=>by simp [foldVs,foldB,sL]
 | _::_,[],_=>by simp [foldVs,foldB,sL]
 | _::_,_::_,[]=>by simp [foldVs,foldB,sL]
 | b::bv,l::ls,s::ss=>by
  have ih:=foldVs_s bv ls ss
  unfold sL at ih ⊢
  simp only [foldVs,List.map_cons,foldB,ih]
  congr 1
  split
  ·exact blockV_s l b
  ·rfl
theorem foldVs_length:∀ (bv:List BV) (ls:List (List FactS)) (ss:List Bool),(foldVs bv ls ss).length=bv.length
 | [],[],_=>rfl
 | [],_::_,[]=>rfl
 | [],_::_,_::_=>rfl
 | _::_,[],_=>rfl
 | _::_,_::_,[]=>rfl
 | b::bv,l::ls,s::ss=>by simp [foldVs,foldVs_length bv ls ss]
theorem foldVs_get:∀ {bv:List BV} {ls:List (List FactS)} {ss:List Bool} {k:Nat} {b:BV} {l:List FactS} {s:Bool},bv[k]?=some b→ls[k]?=some l→ss[k]?=some s→(foldVs bv ls ss)[k]?=some (if s=true then blockV l b else b)
 | _::_,_::_,_::_,0,_,_,_,h1,h2,h3=>by
  simp only [List.getElem?_cons_zero,Option.some.injEq] at h1 h2 h3
  subst h1;subst h2;subst h3;rfl
 | _::_,_::_,_::_,k+1,_,_,_,h1,h2,h3=>by
  rw [foldVs,List.getElem?_cons_succ]
  exact foldVs_get (by simpa using h1) (by simpa using h2) (by simpa using h3)
 | [],_,_,_,_,_,_,h1,_,_=>by simp at h1
 | _::_,[],_,_,_,_,_,_,h2,_=>by simp at h2
 | _::_,_::_,[],_,_,_,_,_,_,h3=>by simp at h3
end Go.Proofs.YtjhloakacicdiaaDoor
