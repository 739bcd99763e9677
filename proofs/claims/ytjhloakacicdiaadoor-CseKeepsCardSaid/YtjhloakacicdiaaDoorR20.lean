/-
  What the functions that the law reaches compute,told by plain data;it holds of programs that pass the check of right form and are light.
-/
import Derived.Test.YtjhloakacicdiaaDoorR15
import Derived.Test.YtjhloakacicdiaaDoorR18
import Derived.Test.YtjhloakacicdiaaDoorR19
import Derived.Test.YtjhloakacicdiaaDoorR9
import Derived.Test.YtjhloakacicdiaaDoorS2
set_option linter.unusedVariables false
set_option linter.unusedSimpArgs false
namespace Go.Proofs.YtjhloakacicdiaaDoor
open Go.AH
attribute [local irreducible] W RS
theorem insT_size (x:InsS) (hx:x.ok) (hn:x.args.length≤100000):(insT x).data.size≤10200000:=by
 have hP0:=parts_ok x hx hn
 have hz:=itoaS_size x.off
 have h1:(offT x).length≤1∧∀ s∈offT x,s.data.size≤100:=by
  unfold offT
  split
  ·exact ⟨by simp,fun s hs=>by cases hs⟩
  ·refine ⟨by simp,fun s hs=>?_⟩
   rw [List.mem_singleton.1 hs,app_size]
   have e:(⟨#[43]⟩:ByteArray).data.size=1:=rfl
   omega
 have h2:(secT x).length≤1∧∀ s∈secT x,s.data.size≤100:=by
  unfold secT
  split
  ·refine ⟨by simp,fun s hs=>?_⟩
   rw [List.mem_singleton.1 hs];exact Nat.le_of_ble_eq_true rfl
  ·exact ⟨by simp,fun s hs=>by cases hs⟩
 have hp:(partsT x).length≤100006:=by
  unfold partsT
  have:=hP0.1
  simp only [List.length_append] at this ⊢
  omega
 have ha:∀ s∈partsT x,s.data.size≤100:=by
  intro s hs
  unfold partsT at hs
  rcases List.mem_append.1 hs with h|h
  ·rcases List.mem_append.1 h with h|h
   ·exact hP0.2 s h
   ·exact h1.2 s h
  ·exact h2.2 s h
 have hj:=join_le (partsT x) ⟨#[32]⟩ 100 ha
 have e:(insT x).data.size=(Lib.join ((partsT x).map (·.data.toList)) (⟨#[32]⟩:ByteArray).data.toList).length:=by
  unfold insT linesS
  simp
 have e2:(⟨#[32]⟩:ByteArray).data.size=1:=rfl
 rw [e2] at hj
 omega
def headF (f:FuncS):ByteArray:=f.name++⟨#[32]⟩++itoaS f.params++⟨#[58]⟩
def insL (x:InsS):ByteArray:=⟨#[32,32]⟩++insT x
def termT (t:TermS):ByteArray :=
 if t.kind=1 then ⟨#[32,32,106,117,109,112,32,98]⟩++itoaS t.goto
 else if t.kind=2 then ⟨#[32,32,105,102,32]⟩++nameS t.op++⟨#[32]⟩++argT t.a++⟨#[32]⟩++argT t.b++⟨#[32,98]⟩++itoaS t.goto++⟨#[32,101,108,115,101,32,98]⟩++itoaS t.els
 else ⟨#[32,32,114,101,116,32]⟩++argT t.a
def blockT (i:Nat) (b:BlockS):List ByteArray:=(⟨#[98]⟩++itoaS (i:Int)++⟨#[58]⟩)::(b.ins.map insL++[termT b.term])
def linesB:Nat→List BlockS→List ByteArray
 | _,[]=>[]
 | i,b::l=>blockT i b++linesB (i+1) l
def funcT (f:FuncS):ByteArray:=linesS (headF f::linesB 0 f.blocks) ⟨#[10]⟩++⟨#[10]⟩
theorem linesB_app:∀ (i:Nat) (a b:List BlockS),linesB i (a++b)=linesB i a++linesB (i+a.length) b
 | i,[],b=>by simp [linesB]
 | i,x::a,b=>by
  rw [List.cons_append,linesB,linesB,linesB_app (i+1) a b,List.append_assoc,List.length_cons]
  rw [show i+1+a.length=i+(a.length+1) by omega]
theorem linesB_take {bl:List BlockS} {i:Nat} {b:BlockS} (h:bl[i]?=some b):linesB 0 (bl.take (i+1))=linesB 0 (bl.take i)++blockT i b:=by
 have hl:=(List.getElem?_eq_some_iff.1 h).1
 rw [List.take_add_one,h,linesB_app,List.length_take,Nat.min_eq_left (Nat.le_of_lt hl),Nat.zero_add]
 simp [linesB]
def nlines (bl:List BlockS):Nat:=(bl.map fun b=>b.ins.length+2).sum
theorem linesB_len:∀ (i:Nat) (bl:List BlockS),(linesB i bl).length=nlines bl
 | _,[]=>rfl
 | i,b::l=>by
  have ih:=linesB_len (i+1) l
  unfold nlines at ih ⊢
  simp only [linesB,blockT,List.length_append,List.length_cons,List.length_map,List.length_nil,ih,List.map_cons,List.sum_cons]
theorem nlines_take:∀ {bl:List BlockS} {i:Nat} {b:BlockS},bl[i]?=some b→nlines (bl.take i)+(b.ins.length+2)≤nlines bl
 | [],_,_,h=>by simp at h
 | x::bl,0,b,h=>by
  simp only [List.getElem?_cons_zero,Option.some.injEq] at h
  subst h
  simp [nlines]
 | x::bl,i+1,b,h=>by
  have:=nlines_take (bl:=bl) (i:=i) (by simpa using h)
  unfold nlines at this ⊢
  simp only [List.take_succ_cons,List.map_cons,List.sum_cons]
  omega
theorem nlines_le {bl:List BlockS} (i:Nat):nlines (bl.take i)≤nlines bl:=by
 have:nlines bl=nlines (bl.take i)+nlines (bl.drop i):=by
  unfold nlines
  conv=>lhs;rw [← List.take_append_drop i bl]
  rw [List.map_append,List.sum_append]
 omega
structure GoodT (t:TermS):Prop where
 a:t.a.ok
 b:t.b.ok
 goto:fitI t.goto
 els:fitI t.els
 op:t.kind=2→0≤t.op∧t.op < 31
structure ShowOK (f:FuncS):Prop where
 par:fitI f.params
 name:f.name.data.size≤140737488351232
 lines:nlines f.blocks≤3000000
 ins:∀ b∈f.blocks,∀ x∈b.ins,x.ok∧x.args.length≤100000
 term:∀ b∈f.blocks,GoodT b.term
 len:f.blocks.length≤100000
theorem headF_size (f:FuncS):(headF f).data.size≤f.name.data.size+30:=by
 unfold headF
 rw [app_size,app_size,app_size]
 have:=itoaS_size f.params
 have e1:(⟨#[32]⟩:ByteArray).data.size=1:=rfl
 have e2:(⟨#[58]⟩:ByteArray).data.size=1:=rfl
 omega
theorem termT_size (t:TermS) (h:t.kind=2→0≤t.op∧t.op < 31):(termT t).data.size≤400:=by
 unfold termT
 have h1:=itoaS_size t.goto
 have h2:=itoaS_size t.els
 have h3:=argT_size t.a
 have h4:=argT_size t.b
 split
 ·rw [app_size]
  have e:(⟨#[32,32,106,117,109,112,32,98]⟩:ByteArray).data.size=8:=rfl
  omega
 ·split
  ·rename_i hk
   have h5:=nameS_size t.op (h hk).1 (h hk).2
   repeat rw [app_size]
   have e1:(⟨#[32,32,105,102,32]⟩:ByteArray).data.size=5:=rfl
   have e2:(⟨#[32]⟩:ByteArray).data.size=1:=rfl
   have e3:(⟨#[32,98]⟩:ByteArray).data.size=2:=rfl
   have e4:(⟨#[32,101,108,115,101,32,98]⟩:ByteArray).data.size=7:=rfl
   omega
  ·rw [app_size]
   have e:(⟨#[32,32,114,101,116,32]⟩:ByteArray).data.size=6:=rfl
   omega
theorem linesB_size:∀ (i:Nat) (bl:List BlockS),(∀ b∈bl,∀ x∈b.ins,x.ok∧x.args.length≤100000)→(∀ b∈bl,b.term.kind=2→0≤b.term.op∧b.term.op < 31)→∀ s∈linesB i bl,s.data.size≤10200002
 | _,[],_,_,s,hs=>by cases hs
 | i,b::l,hi,ht,s,hs=>by
  rw [linesB] at hs
  rcases List.mem_append.1 hs with h|h
  ·unfold blockT at h
   rcases List.mem_cons.1 h with h|h
   ·rw [h,app_size,app_size]
    have:=itoaS_size (i:Int)
    have e1:(⟨#[98]⟩:ByteArray).data.size=1:=rfl
    have e2:(⟨#[58]⟩:ByteArray).data.size=1:=rfl
    omega
   ·rcases List.mem_append.1 h with h|h
    ·obtain ⟨x,hx,rfl⟩:=List.mem_map.1 h
     obtain ⟨h1,h2⟩:=hi b (by simp) x hx
     have:=insT_size x h1 h2
     unfold insL
     rw [app_size]
     have e1:(⟨#[32,32]⟩:ByteArray).data.size=2:=rfl
     omega
    ·rw [List.mem_singleton.1 h]
     have:=termT_size b.term (ht b (by simp))
     omega
  ·exact linesB_size (i+1) l (fun c hc=>hi c (by simp [hc])) (fun c hc=>ht c (by simp [hc])) s h
theorem sz_lit (l:List UInt8):(⟨⟨l⟩⟩:ByteArray).size=l.length:=rfl
theorem itoa_sz (n:Int):(itoaS n).size≤24:=itoaS_size n
theorem argT_sz (a:ArgS):(argT a).size≤25:=argT_size a
set_option maxRecDepth 100000 in
set_option maxHeartbeats 0 in
theorem funcT_tf (f:FuncS) (hok:ShowOK f) (A1:Option Addr) (c1:Nat) (A2:Option Addr) (c2:Nat) (A3:Option Addr) (c3:Nat) (h:Hp) (hs:SlAt h A3 9 f.blocks (blockR h)) (hg:GT h) (ht:NT h):TF Tryd.prog 13 ⟨[.agg ⟨funcC f A1 c1 A2 c2 A3 c3⟩]⟩ h (.string (funcT f)) h:=by
 have hzp:=itoa_sz f.params
 have hzn:f.name.size≤140737488351232:=hok.name
 refine TF.exact (fn:=Tryd.f13) (c:=(Tryd.f13.body.getD .skip)) Tryd.func13 (by kernel_rfl) Tryd.ntmps13 (by kernel_rfl) (fun s0=>⟨Nat.le_refl _,by simp,fun i b hb=>⟨s0.dom i b hb,s0.bd i b hb⟩⟩) fun π s0=>?_
 conv=>arg 2;whnf
 ((with_reducible apply W.seq);repeat (first|refine Y2r ?_|refine Y0 ?_|refine Y1 ?_|refine Y12 ?_))
 refine W.absorbX fun B0 π0 a0=>?_
 have hF0:B0.m (π 0)=some ⟨⟨funcC f A1 c1 A2 c2 A3 c3⟩,37⟩:=a0.loc 0 (by decide:(0:Nat) < 1)
 generalize π 0=q at *
 have hFn0:=a0.dom _ _ hF0
 have hw0:rwM≤B0.n:=a0.sat.rw
 have hgB:=hg.up a0.up
 have hdB:=a0.dom
 have hF:=hF0
 have hFn:=hFn0
 ((with_reducible apply W.seq);repeat (first|refine Y14 ?_|refine Y0 ?_|refine Y1 ?_|refine Y12 ?_))
 ((with_reducible apply W.seq);repeat (first|refine Y1b ?_|refine Y2j ?_|((with_reducible apply RS.callB);(iterate 3 exact rfl);exact fun H hH=>(itoa_tf f.params hok.par H (hgB.up (base_upS hdB hH)));exact Nm_free (by simp))|refine Yn ?_|refine Y3i ?_|refine Yc ?_|refine Y0 ?_|refine Y1 ?_|refine Y12 ?_))
 have hLok:∀ i,(headF f::linesB 0 (f.blocks.take i)).length≤3000001:=by
  intro i
  have h1:=nlines_le (bl:=f.blocks) i
  have h2:=hok.lines
  rw [List.length_cons,linesB_len]
  omega
 refine W.absorbX fun B1 π1 a1=>?_
 have hR0:RowI B0 (π0 1) [headF f] B1:=⟨a1.oldH,fun _=>⟨a1.lo 1 (by decide:(1:Nat) < 2),(a1.loc 1 (by decide:(1:Nat) < 2)).trans rfl⟩⟩
 have hF:=hR0.old.up a0.dom _ _ hF0
 have hFn:=a1.dom _ _ hF
 have hs0:SlAt B0 A3 9 f.blocks (blockR B0):=hs.mono a0.up fun _ _ h=>blockR_mono a0.up h
 repeat (first|refine Y2j ?_|refine Y1z ?_|refine Y0 ?_|refine Y19 ?_|refine Y1 ?_)
 refine W.loopN (X:=Nat × Nat) (fun z=>[(1,.pointer (some ⟨q,0,none⟩)),(21,.slice A3 f.blocks.length c3),(22,.int .i64 (f.blocks.length:Int)),(23,.int .i64 (z.1:Int)),(3,rowVl 1 z.2 (strL (headF f::linesB 0 (f.blocks.take z.1))))]) (fun z B=>z.1≤f.blocks.length∧RowI B0 z.2 (headF f::linesB 0 (f.blocks.take z.1)) B) (fun z=>f.blocks.length - z.1)
  (fun B' a=>⟨(0,π0 1),?_,⟨Nat.zero_le _,hR0.up a1.dom a.oldH⟩⟩) ?_
 ·(repeat' (first|exact trivial|exact rfl|apply And.intro));done
 rintro ⟨i,r⟩ B π2 sB ⟨hi,hRow0⟩
 dsimp only at hi hRow0 ⊢
 have hLen0:=hLok i
 have hLn:nlines (f.blocks.take i)≤nlines f.blocks:=nlines_le i
 have hll:(headF f::linesB 0 (f.blocks.take i)).length=nlines (f.blocks.take i)+1:=by rw [List.length_cons,linesB_len]
 have htot:=hok.lines
 have hNl:=hok.len
 generalize hLL:headF f::linesB 0 (f.blocks.take i)=L0 at *
 have hLL0:L0≠[]:=by rw [← hLL];simp
 by_cases hlt:i < f.blocks.length
 ·obtain ⟨b,hb⟩:∃ b,f.blocks[i]?=some b:=⟨_,List.getElem?_eq_getElem hlt⟩
  have hbm:=List.mem_of_getElem? hb
  have hnb:=nlines_take hb
  obtain ⟨gb,go,gcs,ge,rfl,hG0,hGl,X1,y1,hGv,hBI⟩:=hs0.get i b hb
  have hG:=hRow0.old.up a0.dom _ _ hG0
  have hGn:=sB.dom _ _ hG
  have hfi:fitI (i:Int):=by unfold fitI;omega
  have hrB:=sB.dom _ _ (hRow0.row hLL0).2
  ((with_reducible apply W.seq);repeat (first|refine Y3 ?_|refine Y0 ?_|refine Y1 ?_|refine Y12 ?_))
  ((with_reducible apply W.seq);repeat (first|refine Y2z ?_|refine Y5 ?_))
  ((with_reducible apply W.seq);repeat (first|(with_reducible apply W.block)))
  ((with_reducible apply W.seq);((with_reducible apply W.reg);kernel_rfl);repeat (first|refine Y9 ?_|refine Y1j ?_|refine Ye ?_|refine Y4 ?_|refine Yd ?_|refine Y0 ?_));(with_reducible apply thenK_n)
  refine W.absorbX fun C π3 a3=>?_
  have hT0:C.m (π2 0)=some ⟨⟨blockC b X1 y1⟩,50⟩:=a3.loc 0 (by decide:(0:Nat) < 1)
  have htb:B.n≤π2 0:=a3.lo 0 (by decide:(0:Nat) < 1)
  generalize π2 0=tb at *
  have hTn0:=a3.dom _ _ hT0
  have hRow:=hRow0.up sB.dom a3.oldH
  have hgB:=hgB.up (hRow.old.up a0.dom)
  have hdB:=a3.dom
  have hLen:L0.length+1≤8000000000000:=by omega
  have hzi:=itoa_sz (i:Int)
  ((with_reducible apply W.seq);((with_reducible apply W.reg);kernel_rfl);repeat (first|refine Y1b ?_|((with_reducible apply RS.callB);(iterate 3 exact rfl);exact fun H hH=>(itoa_tf (i:Int) hfi H (hgB.up (base_upS hdB hH)));exact Nm_free (by simp))|((with_reducible apply (RS.pushStr (h0:=B0)));(iterate 4 exact rfl);exact hw0;exact hRow;exact (fun B' a=>(a.loc 0 (by decide:(0:Nat) < 1)).trans rfl);exact hLen;intro r1 H1 π1 s1 hR1 hr1 ho1)|refine Yn ?_|refine Ye ?_|refine Y0 ?_));(with_reducible apply thenK_n)
  have htr:tb≠r:=by omega
  have hT1:H1.m tb=some ⟨⟨blockC b X1 y1⟩,50⟩:=by rw [ho1.2 tb hTn0 htr];exact hT0
  have hr1t:tb < r1:=Nat.lt_of_lt_of_le hTn0 hr1
  have hRow1:=hR1
  have hT:=hT1
  have hTn:=s1.dom _ _ hT
  generalize hLb:L0++[⟨#[98]⟩++itoaS (i:Int)++⟨#[58]⟩]=Lb at *
  have hLbl:Lb.length=L0.length+1:=by rw [← hLb];simp
  have hLb0:Lb≠[]:=by rw [← hLb];simp
  have hbi:∀ k,k≤b.ins.length→(Lb++(b.ins.take k).map insL).length≤3000001:=by
   intro k hk
   rw [List.length_append,List.length_map,List.length_take,hLbl,hll]
   omega
  have hbt:=hok.term b hbm
  have hbo:=hbt.op
  repeat (first|((with_reducible apply RS.load1B);(iterate 3 exact rfl);exact hT;exact hTn;exact rfl)|refine Y1z ?_|refine Y0 ?_|refine Y19 ?_|refine Y1 ?_)
  refine W.loopN (X:=Nat × Nat) (fun z=>[(1,.pointer (some ⟨q,0,none⟩)),(21,.slice (some ⟨gb,go,none⟩) f.blocks.length c3),(22,.int .i64 (f.blocks.length:Int)),(23,.int .i64 (i:Int)),(5,.pointer (some ⟨tb,0,none⟩)),(36,.slice X1 b.ins.length y1),(37,.int .i64 (b.ins.length:Int)),(38,.int .i64 (z.1:Int)),(3,rowVl 1 z.2 (strL (Lb++(b.ins.take z.1).map insL)))]) (fun z D=>z.1≤b.ins.length∧RowI B0 z.2 (Lb++(b.ins.take z.1).map insL) D∧D.m tb=some ⟨⟨blockC b X1 y1⟩,50⟩∧tb < z.2) (fun z=>b.ins.length - z.1)
   (fun B' a=>⟨(0,r1),?_,⟨Nat.zero_le _,by rw [List.take_zero,List.map_nil,List.append_nil];exact hRow1.up s1.dom a.oldH,a.up _ _ hT1,hr1t⟩⟩) ?_
  ·rw [List.take_zero,List.map_nil,List.append_nil]
   (repeat' (first|exact trivial|exact rfl|apply And.intro));done
  rintro ⟨k,r4⟩ D π4 sD ⟨hk,hRow,hT,hrt⟩
  dsimp only at hk hRow hrt ⊢
  have hTn:=sD.dom _ _ hT
  have hgB:=(hg.up a0.up).up (hRow.old.up a0.dom)
  have hdB:=sD.dom
  have hLen:(Lb++(b.ins.take k).map insL).length+1≤8000000000000:=by have:=hbi k hk;omega
  have htD:=(ht.up a0.up).up (hRow.old.up a0.dom)
  by_cases hkl:k < b.ins.length
  ·obtain ⟨x,hx⟩:∃ x,b.ins[k]?=some x:=⟨_,List.getElem?_eq_getElem hkl⟩
   obtain ⟨hxo,hxn⟩:=hok.ins b hbm x (List.mem_of_getElem? hx)
   obtain ⟨xb,xo,xcs,xe,rfl,hI0,hIl,Z1,w1,hIv,hZ⟩:=hBI.get k x hx
   have hI:=hRow.old.up a0.dom _ _ hI0
   have hIn:=sD.dom _ _ hI
   have hzx:(insT x).size≤10200000:=insT_size x hxo hxn
   have etk:Lb++(b.ins.take (k+1)).map insL=Lb++(b.ins.take k).map insL++[⟨#[32,32]⟩++insT x]:=by
    rw [List.take_add_one,hx]
    simp [insL]
   have hZD:=hZ.mono (hRow.old.up a0.dom) fun _ _ h=>h
   repeat (first|refine Y1b ?_|((with_reducible apply RS.loadNB);(iterate 3 exact rfl);exact hI;exact hIn;exact hIl;exact hIv)|((with_reducible apply (RS.callA (g0:=40)));(iterate 3 exact rfl);exact fun B' hB'=>insT_tf x hxo Z1 w1 B' (hZD.mono (fun i b hb=>hB'.up i b hb) fun _ _ h=>h) hxn (hgB.up fun i b hb=>hB'.up i b hb) (htD.up fun i b hb=>hB'.up i b hb))|refine Y9 ?_|((with_reducible apply (RS.pushStr (h0:=B0)));(iterate 4 exact rfl);exact hw0;exact hRow;exact (fun B' a=>(a.loc 1 (by decide:(1:Nat) < 2)).trans rfl);exact hLen;intro r1 H1 π1 s1 hR1 hr1 ho1)|refine Yn ?_|refine Ye ?_|refine Y3 ?_|refine Yb ?_|refine Ya ?_|refine Y4 ?_|refine Yd ?_|refine Y0 ?_|refine Yg ?_|refine Y1 ?_|refine Y5 ?_)
   refine roundN_n rfl fun B' y=>⟨(k+1,r1),?_,⟨by dsimp only;omega,by dsimp only;rw [etk];exact hR1.up s1.dom y.oldH,y.up _ _ (by rw [ho1.2 tb hTn (by omega)];exact hT),Nat.lt_of_lt_of_le hTn hr1⟩,by dsimp only;omega⟩
   dsimp only
   rw [etk]
   (repeat' (first|exact trivial|exact rfl|apply And.intro));done
  ·have hke:k=b.ins.length:=by omega
   have e0:(b.ins.take k).map insL=b.ins.map insL:=by rw [hke,List.take_length]
   rw [e0] at hRow hLen ⊢
   have eall:headF f::linesB 0 (f.blocks.take (i+1))=Lb++b.ins.map insL++[termT b.term]:=by
    rw [linesB_take hb,← List.cons_append,hLL,← hLb]
    unfold blockT
    simp
   have hzg:=itoa_sz b.term.goto
   have hze:=itoa_sz b.term.els
   have hza:=argT_sz b.term.a
   have hzb:=argT_sz b.term.b
   have hkk:b.term.kind=1∨(¬ b.term.kind=1∧b.term.kind=2)∨(¬ b.term.kind=1∧¬ b.term.kind=2):=by omega
   rcases hkk with hk1|⟨hk1,hk2⟩|⟨hk1,hk2⟩
   ·have et:termT b.term=⟨#[32,32,106,117,109,112,32,98]⟩++itoaS b.term.goto:=by unfold termT;rw [if_pos hk1]
    rw [et] at eall
    repeat (first|refine Y1b ?_|((with_reducible apply RS.callB);(iterate 3 exact rfl);exact fun H hH=>(itoa_tf b.term.goto hbt.goto H (hgB.up (base_upS hdB hH)));exact Nm_free (by simp))|refine Y2q ?_|((with_reducible apply (RS.pushStr (h0:=B0)));(iterate 4 exact rfl);exact hw0;exact hRow;exact (fun B' a=>(a.loc 1 (by decide:(1:Nat) < 2)).trans rfl);exact hLen;intro r1 H1 π1 s1 hR1 hr1 ho1)|refine Yn ?_|refine Yc ?_|refine Y3 ?_|refine Y2 ?_|refine Yb ?_|refine Y7 ?_|refine Y4 ?_|refine Yd ?_|refine Y0 ?_|refine Y3n ?_|refine Y1 ?_|refine Y5 ?_|refine Y6 ?_|refine Yi ?_)
    refine roundN_n rfl fun B' y=>⟨(i+1,r1),?_,⟨by dsimp only;omega,by dsimp only;rw [eall];exact hR1.up s1.dom y.oldH⟩,by dsimp only;omega⟩
    dsimp only
    rw [eall]
    (repeat' (first|exact trivial|exact rfl|apply And.intro));done
   ·have et:termT b.term=⟨#[32,32,105,102,32]⟩++nameS b.term.op++⟨#[32]⟩++argT b.term.a++⟨#[32]⟩++argT b.term.b++⟨#[32,98]⟩++itoaS b.term.goto++⟨#[32,101,108,115,101,32,98]⟩++itoaS b.term.els:=by unfold termT;rw [if_neg hk1,if_pos hk2]
    rw [et] at eall
    obtain ⟨hop0,hop1⟩:=hbo hk2
    obtain ⟨te,hN⟩:=htD
    have hNn:=sD.dom _ _ hN
    have hat:=names_at (n:=b.term.op.toNat) (by omega)
    rw [Int.toNat_of_nonneg (by omega)] at hat
    have hzo:(nameS b.term.op).size≤24:=nameS_size _ hop0 hop1
    have hLne:Lb++b.ins.map insL≠[]:=by simp [hLb0]
    repeat (first|refine Y1b ?_|((with_reducible apply RS.callB);(iterate 3 exact rfl);first|exact fun H hH=>(itoa_tf b.term.goto hbt.goto H (hgB.up (base_upS hdB hH)));exact Nm_free (by simp)|exact fun H hH=>(itoa_tf b.term.els hbt.els H (hgB.up (base_upS hdB hH)));exact Nm_free (by simp)|exact fun H hH=>(sarg_tf b.term.a hbt.a H (hgB.up (base_upS hdB hH)));exact Nm_free (by simp)|exact fun H hH=>(sarg_tf b.term.b hbt.b H (hgB.up (base_upS hdB hH)));exact Nm_free (by simp))|refine Y2q ?_|((with_reducible apply RS.load1B);(iterate 3 exact rfl);exact hN;exact hNn;exact hat)|((with_reducible apply (RS.indexAddrArr (m:=b.term.op.toNat)));(iterate 3 exact rfl);exact (show _=_ from congrArg (fun z=>some (Value.int IntKind.i64 z)) (Int.toNat_of_nonneg (by omega)).symm);omega)|((with_reducible apply (RS.pushStrD (q:=1)));(iterate 4 exact rfl);exact hLne;exact (hRow.row hLne).2;exact (sD.dom _ _ (hRow.row hLne).2);exact (Nat.le_trans hw0 (hRow.row hLne).1);exact Nat.le_of_ble_eq_true rfl;exact rfl;exact hLen)|refine Yn ?_|refine Yc ?_|refine Y3 ?_|refine Y2 ?_|refine Yb ?_|refine Y7 ?_|refine Ya ?_|refine Y4 ?_|refine Yd ?_|refine Y0 ?_|refine Y3n ?_|refine Y1 ?_|refine Y5 ?_|refine Y6 ?_|refine Yi ?_)
    have hRr:=hRow.row hLne
    refine roundN_n rfl fun B' y=>⟨(i+1,π4 2),?_,⟨by dsimp only;omega,?_⟩,by dsimp only;omega⟩
    ·dsimp only
     rw [eall]
     (repeat' (first|exact trivial|exact rfl|apply And.intro));done
    ·dsimp only
     rw [eall]
     refine ⟨⟨Nat.le_trans hRow.old.1 y.le,fun j hj=>?_⟩,fun _=>⟨Nat.le_trans hRow.old.1 (y.lo 2 (by decide:(2:Nat) < 3)),(y.loc 2 (by decide:(2:Nat) < 3)).trans rfl⟩⟩
     have e1:=y.old j (Nat.lt_of_lt_of_le hj hRow.old.1)
     rw [e1,← hRow.old.2 j hj]
     show (if j=r4 then none else D.m j)=D.m j
     rw [if_neg (by omega)]
   ·have et:termT b.term=⟨#[32,32,114,101,116,32]⟩++argT b.term.a:=by unfold termT;rw [if_neg hk1,if_neg hk2]
    rw [et] at eall
    repeat (first|refine Y1b ?_|((with_reducible apply RS.callB);(iterate 3 exact rfl);exact fun H hH=>(sarg_tf b.term.a hbt.a H (hgB.up (base_upS hdB hH)));exact Nm_free (by simp))|refine Y2q ?_|((with_reducible apply (RS.pushStr (h0:=B0)));(iterate 4 exact rfl);exact hw0;exact hRow;exact (fun B' a=>(a.loc 1 (by decide:(1:Nat) < 2)).trans rfl);exact hLen;intro r1 H1 π1 s1 hR1 hr1 ho1)|refine Yn ?_|refine Yc ?_|refine Y2 ?_|refine Yb ?_|refine Y7 ?_|refine Ya ?_|refine Y4 ?_|refine Yd ?_|refine Y0 ?_|refine Y3n ?_|refine Y1 ?_|refine Y6 ?_|refine Yi ?_)
    refine roundN_n rfl fun B' y=>⟨(i+1,r1),?_,⟨by dsimp only;omega,by dsimp only;rw [eall];exact hR1.up s1.dom y.oldH⟩,by dsimp only;omega⟩
    dsimp only
    rw [eall]
    (repeat' (first|exact trivial|exact rfl|apply And.intro));done
 ·have hni:i=f.blocks.length:=by omega
  have eall:L0=headF f::linesB 0 f.blocks:=by rw [← hLL,hni,List.take_length]
  have hsz:(Lib.join (L0.map (·.data.toList)) (⟨#[10]⟩:ByteArray).data.toList).length≤200000000000000:=by
   have hb:=linesB_size 0 f.blocks hok.ins fun c hc=>(hok.term c hc).op
   have h1:=headF_size f
   have h2:=hok.name
   rw [eall,List.map_cons,Lib.join_length,Lib.lens,List.map_cons,List.sum_cons,List.length_map,linesB_len]
   have h3:∀ l:List ByteArray,(∀ s∈l,s.data.size≤10200002)→((l.map (·.data.toList)).map (·.length)).sum≤l.length * 10200002:=by
    intro l
    induction l with
    | nil=>intro _;exact Nat.le_refl _
    | cons a l ih =>
     intro hl
     have i1:=ih fun s hs=>hl s (by simp [hs])
     have i2:=hl a (by simp)
     simp only [List.map_cons,List.sum_cons,List.length_cons,Array.length_toList]
     rw [Nat.succ_mul]
     omega
   have h4:=h3 _ hb
   rw [linesB_len] at h4
   have e1:(⟨#[10]⟩:ByteArray).data.toList.length=1:=rfl
   rw [e1,Array.length_toList]
   omega
  have hJ:∀ B',Old B B'→TF Tryd.prog 42 ⟨[rowVl 1 r (strL L0),.string ⟨#[10]⟩]⟩ B' (.string (linesS L0 ⟨#[10]⟩)) B':=fun B' o=>sjoinB_tf L0 _ r B' B0 (hRow0.up sB.dom o) hw0 (by omega) (by omega)
  have hzL:(linesS L0 ⟨#[10]⟩).size≤200000000000000:=by
   have e:(linesS L0 ⟨#[10]⟩).size=(Lib.join (L0.map (·.data.toList)) (⟨#[10]⟩:ByteArray).data.toList).length:=by
    unfold linesS
    show (Array.mk _).size=_
    simp
   rw [e];exact hsz
  have hfin:funcT f=linesS L0 ⟨#[10]⟩++⟨#[10]⟩:=by rw [eall];rfl
  repeat (first|refine Y1b ?_|((with_reducible apply (RS.callA (g0:=42)));(iterate 3 exact rfl);exact fun B' hB'=>hJ B' hB'.oldH)|refine Ye ?_|refine Y2 ?_|refine Y0 ?_|refine Y20 ?_|refine Y1 ?_|refine Y6 ?_|refine Yi ?_)
  exact endsK_ret _ (.cons (.tmp rfl) .nil) fun B' y=>⟨by rw [hfin];rfl,fun j x hj=>y.up _ _ (hRow0.old.up a0.dom _ _ (a0.up _ _ hj))⟩
theorem funcT_size (f:FuncS) (hok:ShowOK f):(funcT f).size≤200000000000001:=by
 have hb:=linesB_size 0 f.blocks hok.ins fun c hc=>(hok.term c hc).op
 have h1:=headF_size f
 have h2:=hok.name
 have h5:=hok.lines
 have h3:∀ l:List ByteArray,(∀ s∈l,s.data.size≤10200002)→((l.map (·.data.toList)).map (·.length)).sum≤l.length * 10200002:=by
  intro l
  induction l with
  | nil=>intro _;exact Nat.le_refl _
  | cons a l ih =>
   intro hl
   have i1:=ih fun s hs=>hl s (by simp [hs])
   have i2:=hl a (by simp)
   simp only [List.map_cons,List.sum_cons,List.length_cons,Array.length_toList]
   rw [Nat.succ_mul]
   omega
 have h4:=h3 _ hb
 rw [linesB_len] at h4
 have e1:(⟨#[10]⟩:ByteArray).data.toList.length=1:=rfl
 have hj:(Lib.join ((headF f::linesB 0 f.blocks).map (·.data.toList)) (⟨#[10]⟩:ByteArray).data.toList).length≤200000000000000:=by
  rw [List.map_cons,Lib.join_length,Lib.lens,List.map_cons,List.sum_cons,List.length_map,linesB_len,e1,Array.length_toList]
  omega
 have e:(linesS (headF f::linesB 0 f.blocks) ⟨#[10]⟩).data.size=(Lib.join ((headF f::linesB 0 f.blocks).map (·.data.toList)) (⟨#[10]⟩:ByteArray).data.toList).length:=by
  unfold linesS
  simp
 unfold funcT
 show (linesS (headF f::linesB 0 f.blocks) ⟨#[10]⟩++⟨#[10]⟩).data.size≤_
 rw [app_size,e]
 have e3:(⟨#[10]⟩:ByteArray).data.size=1:=rfl
 omega
def progT:List FuncS→ByteArray:=fun l=>l.foldl (fun s f=>s++funcT f) ⟨#[]⟩
theorem progT_snoc (l:List FuncS) (f:FuncS):progT (l++[f])=progT l++funcT f:=by simp [progT]
theorem progT_go:∀ (l:List FuncS) (s:ByteArray),(∀ f∈l,ShowOK f)→(l.foldl (fun s f=>s++funcT f) s).size≤s.size+l.length * 200000000000001
 | [],s,_=>by show s.size≤s.size+0 * _;omega
 | f::l,s,h=>by
  have h1:=progT_go l (s++funcT f) fun g hg=>h g (by simp [hg])
  have h2:=funcT_size f (h f (by simp))
  rw [List.foldl_cons,List.length_cons]
  rw [ByteArray.size_append] at h1
  omega
theorem progT_size (l:List FuncS) (h:∀ f∈l,ShowOK f):(progT l).size≤l.length * 200000000000001:=by
 have h1:=progT_go l ⟨#[]⟩ h
 have e:(⟨#[]⟩:ByteArray).size=0:=rfl
 unfold progT
 omega
set_option maxRecDepth 100000 in
theorem progT_tf (p:ProgS) (hnf:p.funcs.length≤10000) (hok:∀ f∈p.funcs,ShowOK f) (P1:Option Addr) (d1:Nat) (P2:Option Addr) (d2:Nat) (h:Hp) (hg:GT h) (hnt:NT h) (hfs:SlAt h P1 6 p.funcs (funcRS h)) :
 TF Tryd.prog 25 ⟨[.agg ⟨progC p P1 d1 P2 d2⟩]⟩ h (.string (progT p.funcs)) h:=by
 refine TF.exact (fn:=Tryd.f25) (c:=(Tryd.f25.body.getD .skip)) Tryd.func25 (by kernel_rfl) Tryd.ntmps25 (by kernel_rfl) (fun s0=>⟨Nat.le_refl _,by simp,fun i b hb=>⟨s0.dom i b hb,s0.bd i b hb⟩⟩) fun π s0=>?_
 conv=>arg 2;whnf
 ((with_reducible apply W.seq);repeat (first|refine Y2r ?_|refine Y0 ?_|refine Y1 ?_|refine Y12 ?_))
 refine W.absorbX fun B0 π0 a0=>?_
 have m0:B0.m (π 0)=some ⟨⟨progC p P1 d1 P2 d2⟩,25⟩:=a0.loc 0 (by decide:(0:Nat) < 1)
 generalize π 0=pb at *
 have n0:=a0.dom _ _ m0
 repeat (first|((with_reducible apply RS.load1B);(iterate 3 exact rfl);exact m0;exact n0;exact rfl)|refine Y1p ?_|refine Y0 ?_|refine Y19 ?_|refine Y1 ?_)
 refine W.loopN (X:=Nat) (fun i=>[(3,.string (progT (p.funcs.take i))),(7,.slice P1 p.funcs.length d1),(8,.int .i64 (p.funcs.length:Int)),(9,.int .i64 (i:Int))]) (fun i B=>i≤p.funcs.length∧Old B0 B) (fun i=>p.funcs.length - i)
  (fun B' a=>⟨0,?_,⟨Nat.zero_le _,a.oldH⟩⟩) ?_
 ·(repeat' (first|exact trivial|exact rfl|apply And.intro));done
 rintro i B π1 sB ⟨hi,old⟩
 have hup:=fun j b (hb:h.m j=some b)=>old.up a0.dom j b (a0.up j b hb)
 by_cases hlt:i < p.funcs.length
 ·obtain ⟨f,hf⟩:∃ f,p.funcs[i]?=some f:=⟨_,List.getElem?_eq_getElem hlt⟩
  have hSh:=hok f (List.mem_of_getElem? hf)
  obtain ⟨gb,go,gcs,ge,rfl,hG0,hGl,B1,e1,B2,e2,B3,e3,sec,hGv,_,_,_,hsB⟩:=hfs.get i f hf
  have hG:=hup _ _ hG0
  have hGn:=sB.dom _ _ hG
  have hBl:=hsB.mono hup fun _ _ h=>blockR_mono hup h
  have hgB:=hg.up hup
  have hnB:=hnt.up hup
  have hz1:=funcT_size f hSh
  have hz2:=progT_size (p.funcs.take i) fun g hg=>hok g (List.mem_of_mem_take hg)
  rw [List.length_take] at hz2
  have hz3:min i p.funcs.length * 200000000000001≤10000 * 200000000000001:=Nat.mul_le_mul_right _ (by omega)
  have etk:progT (p.funcs.take (i+1))=progT (p.funcs.take i)++funcT f:=by
   rw [List.take_add_one,hf]
   exact progT_snoc _ _
  repeat (first|refine Y9 ?_|refine Y1j ?_|((with_reducible apply (RS.callA (g0:=13)));(iterate 3 exact rfl);exact fun B' hB'=>funcT_tf f hSh _ _ _ _ _ _ B' (hBl.mono (fun i b hb=>hB'.up i b hb) fun _ _ h=>blockR_mono (fun i b hb=>hB'.up i b hb) h) (hgB.up fun i b hb=>hB'.up i b hb) (hnB.up fun i b hb=>hB'.up i b hb))|((with_reducible apply RS.strAdd);(iterate 4 exact rfl);omega)|refine Ye ?_|refine Y3 ?_|refine Yb ?_|refine Ya ?_|refine Y4 ?_|refine Yd ?_|refine Y0 ?_|refine Yg ?_|refine Y1 ?_|refine Y5 ?_)
  refine roundN_n rfl fun B' a=>⟨i+1,?_,⟨by omega,old.trans a.oldH⟩,by omega⟩
  rw [etk]
  (repeat' (first|exact trivial|exact rfl|apply And.intro));done
 ·have hni:i=p.funcs.length:=by omega
  have eall:progT (p.funcs.take i)=progT p.funcs:=by rw [hni,List.take_length]
  rw [eall]
  repeat (first|refine Ye ?_|refine Y2 ?_|refine Y0 ?_|refine Y20 ?_|refine Y1 ?_|refine Y6 ?_|refine Yi ?_)
  exact endsK_ret _ (.cons (.tmp rfl) .nil) fun B' a=>⟨rfl,fun j x hj=>a.up _ _ (hup j x hj)⟩
theorem outsE_tf (a:List Int) (i j:Nat) (H:Hp) (h1:H.m i=rowBk intW 2 a) (h2:H.m j=rowBk intW 2 a) (ha:a.length≤100000000):TF Tryd.prog 32 ⟨[rowVl 1 i a,rowVl 1 j a]⟩ H (.bool true) H:=by
 have s1:=row_at (R:=intR) (sz:=1) (fun _=>rfl) (fun _=>rfl) [] a h1
 have s2:=row_at (R:=intR) (sz:=1) (fun _=>rfl) (fun _=>rfl) [] a h2
 rw [rowVl_eq,rowVl_eq]
 have:=Nums_tf a.reverse a.reverse (if a=[] then none else some ⟨i,0,none⟩) (if a=[] then 0 else capOf 1) (if a=[] then none else some ⟨j,0,none⟩) (if a=[] then 0 else capOf 1) (by simp;omega) (by simp;omega) H s1 s2
 rw [List.length_reverse,decide_eq_true rfl] at this
 exact this
theorem leaksD_tf (a b:List LeakS) (i j:Nat) (H:Hp) (h1:H.m i=rowBk leakW 74 a) (h2:H.m j=rowBk leakW 74 b) (ha:a.length≤100000000) (hb:b.length≤100000000):TF Tryd.prog 60 ⟨[rowVl 3 i a,rowVl 3 j b]⟩ H (.bool (decide (a=b))) H:=by
 have s1:=row_at (R:=leakR) (sz:=3) (fun _=>rfl) (fun _=>rfl) [] a h1
 have s2:=row_at (R:=leakR) (sz:=3) (fun _=>rfl) (fun _=>rfl) [] b h2
 rw [rowVl_eq,rowVl_eq]
 have:=Leaks_tf a.reverse b.reverse (if a=[] then none else some ⟨i,0,none⟩) (if a=[] then 0 else capOf 3) (if b=[] then none else some ⟨j,0,none⟩) (if b=[] then 0 else capOf 3) (by simp;omega) (by simp;omega) H s1 s2
 rw [List.length_reverse,List.length_reverse] at this
 rw [show decide (a=b)=decide (a.reverse=b.reverse) from by simp]
 exact this
structure FourR (a b x y:RunS):Prop where
 run:a.fin=0→x.fin=0∧x.exit=a.exit∧x.out=a.out∧x.steps≤a.steps
 two:a.fin=0→b.fin=0→a.leaks=b.leaks→x.leaks=y.leaks
theorem KeepsP.four {p q:ProgS} (hK:KeepsP p q) (hr:rightP p=true) (N:Nat) (pub sec pub' sec':List Int) (fuel:Int):FourR (runR p N pub sec fuel) (runR p N pub' sec' fuel) (runR q N pub sec fuel) (runR q N pub' sec' fuel):=by
 unfold runR
 rw [if_pos hr,if_pos hr,if_pos hK.right,if_pos hK.right]
 exact ⟨hK.run N pub sec fuel,hK.two N pub sec pub' sec' fuel⟩
set_option maxRecDepth 100000 in
set_option maxHeartbeats 0 in
theorem Keeps_tf (p q:ProgS) (hpok:p.ok) (hLp:LightP p) (hRp:rightP p=true) (hSh:∀ f∈p.funcs,ShowOK f) (hszp:psizeL p.funcs≤1000000000) (hK:KeepsP p q)
 (h:Hp) (hg:GT h) (hnt:NT h) (P1:Option Addr) (d1:Nat) (P2:Option Addr) (d2:Nat) (hfs:SlAt h P1 6 p.funcs (funcRS h)) (hgs:SlAt h P2 4 p.globals (globR h)) (qb:Nat) (qe:TypeId) (Q1:Option Addr) (e1:Nat) (Q2:Option Addr) (e2:Nat) (hq:ProgAt h qb q qe Q1 e1 Q2 e2)
 (A1:Option Addr) (n1 c1:Nat) (A2:Option Addr) (n2 c2:Nat) (A3:Option Addr) (n3 c3:Nat) (A4:Option Addr) (n4 c4:Nat) (pub sec pub' sec':List Int) (hi1:InRow h A1 n1 c1 pub) (hi2:InRow h A2 n2 c2 sec) (hi3:InRow h A3 n3 c3 pub') (hi4:InRow h A4 n4 c4 sec') :
 TF Tryd.prog 33 ⟨[.agg ⟨progC p P1 d1 P2 d2⟩,.pointer (some ⟨qb,0,none⟩),.string (progT p.funcs),.agg ⟨[.slice A1 n1 c1,.slice A2 n2 c2]⟩,.agg ⟨[.slice A3 n3 c3,.slice A4 n4 c4]⟩]⟩ h (.bool true) h:=by
 refine TF.exact (fn:=Tryd.f33) (c:=(Tryd.f33.body.getD .skip)) Tryd.func33 (by kernel_rfl) Tryd.ntmps33 (by kernel_rfl) (fun s0=>⟨Nat.le_refl _,by simp,fun i b hb=>⟨s0.dom i b hb,s0.bd i b hb⟩⟩) fun π s0=>?_
 conv=>arg 2;whnf
 ((with_reducible apply W.seq);repeat (first|refine Y2r ?_|refine Y0 ?_|refine Y1 ?_|refine Y12 ?_))
 refine W.absorbX fun B0 π0 a0=>?_
 have m0:B0.m (π 0)=some ⟨⟨progC p P1 d1 P2 d2⟩,25⟩:=a0.loc 0 (by decide:(0:Nat) < 3)
 have m1:B0.m (π 1)=some ⟨⟨[.slice A1 n1 c1,.slice A2 n2 c2]⟩,30⟩:=a0.loc 1 (by decide:(1:Nat) < 3)
 have m2:B0.m (π 2)=some ⟨⟨[.slice A3 n3 c3,.slice A4 n4 c4]⟩,30⟩:=a0.loc 2 (by decide:(2:Nat) < 3)
 generalize π 0=pb at *
 generalize π 1=ib at *
 generalize π 2=jb at *
 have n0:=a0.dom _ _ m0
 have n1':=a0.dom _ _ m1
 have n2':=a0.dom _ _ m2
 replace hfs:=hfs.mono a0.up fun _ _ h=>funcRS_mono a0.up h
 replace hgs:=hgs.mono a0.up fun _ _ h=>globR_mono a0.up h
 replace hg:=hg.up a0.up
 replace hnt:=hnt.up a0.up
 replace hq:=hq.up a0.up
 replace hi1:=hi1.up a0.up
 replace hi2:=hi2.up a0.up
 replace hi3:=hi3.up a0.up
 replace hi4:=hi4.up a0.up
 have hpv:∀ v∈progC p P1 d1 P2 d2,bnd B0.n v:=fun v hv=>a0.sat.bd _ _ m0 v (by simpa using hv)
 have hiv:∀ v∈[Value.slice A1 n1 c1,.slice A2 n2 c2],bnd B0.n v:=fun v hv=>a0.sat.bd _ _ m1 v (by simpa using hv)
 have hov:∀ v∈[Value.slice A3 n3 c3,.slice A4 n4 c4],bnd B0.n v:=fun v hv=>a0.sat.bd _ _ m2 v (by simpa using hv)
 have hup:∀ H:Hp,(∀ id,id < B0.n→H.m id=B0.m id)→∀ i b,B0.m i=some b→H.m i=some b:=fun H hH i b hb=>by rw [hH i (a0.dom _ _ hb)];exact hb
 have hp:ProgAt B0 pb p 25 P1 d1 P2 d2:=⟨m0,hfs.mono (fun _ _ h=>h) fun _ _ h=>h.r,hgs⟩
 have hQ:=hq.m
 have hQn:=a0.dom _ _ hQ
 have hRt:∀ H:Hp,(∀ id,id < B0.n→H.m id=B0.m id)→TF Tryd.prog 37 ⟨[.pointer (some ⟨qb,0,none⟩)]⟩ H (.int .i64 0) H:=fun H hH=>by
  have:=Right_tf q hK.ok (fun f hf b hb x hx=>by have:=((hK.light.f f hf).2.2 b hb).2 x hx;omega) qb qe Q1 e1 Q2 e2 H (hq.up (hup H hH))
  rw [if_pos hK.right] at this
  exact this
 obtain ⟨tx,htx⟩:∃ tx,progT p.funcs=tx:=⟨_,rfl⟩
 have hSw:∀ H:Hp,(∀ id,id < B0.n→H.m id=B0.m id)→TF Tryd.prog 25 ⟨[.agg ⟨progC p P1 d1 P2 d2⟩]⟩ H (.string tx) H:=fun H hH=>by
  rw [← htx]
  exact progT_tf p (by have:=hLp.nf;omega) hSh P1 d1 P2 d2 H (hg.up (hup H hH)) (hnt.up (hup H hH)) (hfs.mono (hup H hH) fun _ _ h=>funcRS_mono (hup H hH) h)
 obtain ⟨zq,hzq⟩:∃ z,psizeL q.funcs=z:=⟨_,rfl⟩
 obtain ⟨zp,hzp⟩:∃ z,psizeL p.funcs=z:=⟨_,rfl⟩
 have hzz:=hK.size
 rw [hzq,hzp] at hzz
 rw [hzp] at hszp
 have hlenp:=hLp.nf
 have hlenq:=hK.len
 have hmain:=hK.main
 have hdata:=hK.data
 have hglob:=hK.glob
 have hSq:∀ H:Hp,(∀ id,id < B0.n→H.m id=B0.m id)→TF Tryd.prog 59 ⟨[.pointer (some ⟨qb,0,none⟩)]⟩ H (.int .i64 (zq:Int)) H:=fun H hH=>by
  have:=Size_tf q (by omega) (by omega) qb qe Q1 e1 Q2 e2 H (hup H hH _ _ hQ) (hq.up (hup H hH)).fs
  rw [hzq] at this
  exact this
 have hSp:∀ H:Hp,(∀ id,id < B0.n→H.m id=B0.m id)→TF Tryd.prog 59 ⟨[.pointer (some ⟨pb,0,none⟩)]⟩ H (.int .i64 (zp:Int)) H:=fun H hH=>by
  have:=Size_tf p (by omega) (by omega) pb _ P1 d1 P2 d2 H (hup H hH _ _ m0) (hp.up (hup H hH)).fs
  rw [hzp] at this
  exact this
 rw [htx]
 clear htx
 ((with_reducible apply W.seq);repeat (fail))
 ((with_reducible apply W.seq);repeat (first|refine Y3g ?_|((with_reducible apply RS.load1B);(iterate 3 exact rfl);first|exact m0;exact n0;exact rfl|exact hQ;exact hQn;exact rfl)|refine Y51 ?_|((with_reducible apply (RS.callB (g0:=37)));(iterate 3 exact rfl);exact fun H hH=>hRt H hH;exact Nm_free (by simp))|((with_reducible apply (RS.callB (g0:=25)));(iterate 3 exact rfl);exact fun H hH=>hSw H hH;exact Nm_free (by simp))|((with_reducible apply (RS.callB (g0:=59) (v:=.int .i64 (zq:Int))));(iterate 3 exact rfl);exact fun H hH=>hSq H hH;exact Nm_free (by simp))|((with_reducible apply (RS.callB (g0:=59) (v:=.int .i64 (zp:Int))));(iterate 3 exact rfl);exact fun H hH=>hSp H hH;exact Nm_free (by simp))|((with_reducible apply RS.neqSame);iterate 5 exact rfl)|refine Y21 ?_|refine Y8 ?_|refine Y2 ?_|refine Yj ?_|refine Y0 ?_|refine Y1 ?_|refine Y2z ?_|refine Y6 ?_))
 repeat (first|((with_reducible apply RS.load1B);(iterate 3 exact rfl);exact hQ;exact hQn;exact rfl)|refine Y21 ?_|refine Y0 ?_|refine Y19 ?_|refine Y1 ?_)
 refine W.loopN (X:=Nat) (fun i=>[(1,.pointer (some ⟨qb,0,none⟩)),(5,.pointer (some ⟨pb,0,none⟩)),(8,.pointer (some ⟨ib,0,none⟩)),(9,.pointer (some ⟨jb,0,none⟩)),(79,.slice Q1 q.funcs.length e1),(80,.int .i64 (q.funcs.length:Int)),(81,.int .i64 (i:Int))])
  (fun i B=>Old B0 B∧i≤q.funcs.length) (fun i=>q.funcs.length - i) (fun B' a=>⟨0,?_,a.oldH,Nat.zero_le _⟩) ?_
 ·(repeat' (first|exact trivial|exact rfl|apply And.intro));done
 rintro i B π3 sB ⟨hold,hi⟩
 dsimp only at hold hi ⊢
 have hupB:=hold.up a0.dom
 replace m0:=hupB _ _ m0
 replace n0:=sB.dom _ _ m0
 by_cases hlt:i < q.funcs.length
 ·obtain ⟨f',hf'⟩:∃ f',q.funcs[i]?=some f':=⟨_,List.getElem?_eq_getElem hlt⟩
  obtain ⟨f,hf⟩:∃ f,p.funcs[i]?=some f:=⟨_,List.getElem?_eq_getElem (by omega)⟩
  obtain ⟨hnm,hpa⟩:=hK.head i f f' hf hf'
  obtain ⟨gb,go,gcs,ge,hA,hG0,hGl,B1,k1,B2,k2,B3,k3,hGv,_,_⟩:=hq.fs.get i f' hf'
  have hG:=hupB _ _ hG0
  have hGn:=sB.dom _ _ hG
  obtain ⟨ub,uo,ucs,ue,hA',hU0',hUl,C1,j1,C2,j2,C3,j3,usec,hUv,_,_,_,_⟩:=hfs.get i f hf
  have hU:=hupB _ _ hU0'
  have hUn:=sB.dom _ _ hU
  have hU0:ucs[uo+i * 6+0]?=some (.string f.name):=take_nth hUv (j:=0) rfl
  have hU1:ucs[uo+i * 6+1]?=some (.int .i64 f.params):=take_nth hUv (j:=1) rfl
  subst hA
  subst hA'
  repeat (first|((with_reducible apply RS.load1B);(iterate 3 exact rfl);exact m0;exact n0;exact rfl)|refine Y9 ?_|refine Y1j ?_|((with_reducible apply RS.load1B);(iterate 3 exact rfl);exact hU;exact hUn;(first|exact hU0|exact hU1))|((with_reducible apply RS.neqSame);(iterate 4 exact rfl);exact hnm)|refine Yc ?_|refine Y8 ?_|refine Y3 ?_|refine Y2 ?_|refine Yb ?_|refine Y7 ?_|refine Y4 ?_|refine Yd ?_|refine Y0 ?_|refine Yg ?_|refine Y1 ?_|refine Y5 ?_|refine Y6 ?_)
  refine roundN_n rfl fun B' a=>⟨i+1,?_,⟨hold.trans a.oldH,by omega⟩,by omega⟩
  (repeat' (first|exact trivial|exact rfl|apply And.intro));done
 ·replace m1:=hupB _ _ m1
  replace n1':=sB.dom _ _ m1
  replace m2:=hupB _ _ m2
  replace n2':=sB.dom _ _ m2
  replace hiv:∀ v∈[Value.slice A1 n1 c1,.slice A2 n2 c2],bnd B.n v:=fun v hv=>sB.bd _ _ m1 v (by simpa using hv)
  replace hov:∀ v∈[Value.slice A3 n3 c3,.slice A4 n4 c4],bnd B.n v:=fun v hv=>sB.bd _ _ m2 v (by simpa using hv)
  have hpB:=hp.up hupB
  have hqB:=hq.up hupB
  have hrunA:=RunAny_to B sB.dom p hpok hLp pb _ P1 d1 P2 d2 hpB A1 n1 c1 A2 n2 c2 pub sec (hi1.up hupB) (hi2.up hupB) 20000 (by omega) 20001 (by omega)
  have hrunB:=RunAny_to B sB.dom p hpok hLp pb _ P1 d1 P2 d2 hpB A3 n3 c3 A4 n4 c4 pub' sec' (hi3.up hupB) (hi4.up hupB) 20000 (by omega) 20001 (by omega)
  have hrunX:=RunAny_to B sB.dom q hK.ok hK.light qb _ Q1 e1 Q2 e2 hqB A1 n1 c1 A2 n2 c2 pub sec (hi1.up hupB) (hi2.up hupB) 20000 (by omega) 20001 (by omega)
  have hrunY:=RunAny_to B sB.dom q hK.ok hK.light qb _ Q1 e1 Q2 e2 hqB A3 n3 c3 A4 n4 c4 pub' sec' (hi3.up hupB) (hi4.up hupB) 20000 (by omega) 20001 (by omega)
  have hbA:=runR_bd B sB.dom p hpok hLp pb _ P1 d1 P2 d2 hpB pub sec 20000 (by omega) 20001 (by omega)
  have hbB:=runR_bd B sB.dom p hpok hLp pb _ P1 d1 P2 d2 hpB pub' sec' 20000 (by omega) 20001 (by omega)
  have hbX:=runR_bd B sB.dom q hK.ok hK.light qb _ Q1 e1 Q2 e2 hqB pub sec 20000 (by omega) 20001 (by omega)
  have hbY:=runR_bd B sB.dom q hK.ok hK.light qb _ Q1 e1 Q2 e2 hqB pub' sec' 20000 (by omega) 20001 (by omega)
  have hfour:=hK.four hRp 20001 pub sec pub' sec' 20000
  generalize runR p 20001 pub sec 20000=a at *
  generalize runR p 20001 pub' sec' 20000=b at *
  generalize runR q 20001 pub sec 20000=x at *
  generalize runR q 20001 pub' sec' 20000=y at *
  obtain ⟨lv,hlv⟩:∃ lv,decide (a.leaks=b.leaks)=lv:=⟨_,rfl⟩
  have hLab:∀ (H:Hp) (i j:Nat),H.m i=rowBk leakW 74 a.leaks→H.m j=rowBk leakW 74 b.leaks→TF Tryd.prog 60 ⟨[rowVl 3 i a.leaks,rowVl 3 j b.leaks]⟩ H (.bool lv) H:=by
   rw [← hlv];exact fun H i j h1 h2=>leaksD_tf _ _ i j H h1 h2 hbA.leaks hbB.leaks
  have hQBn:qb < B.n:=sB.dom _ _ hqB.m
  ((with_reducible apply W.seq);repeat (first|refine Y2 ?_|refine Y0 ?_|refine Y1 ?_|refine Y12 ?_))
  ((with_reducible apply W.seq);repeat (first|(with_reducible first|apply W.exit|apply thenK_n|apply thenK_e|apply roundN_e)|refine Y6 ?_|refine Yi ?_))
  ((with_reducible apply W.seq);repeat (first|refine Y22 ?_|((with_reducible apply (RS.callO (vs:=[]) [] 2));(iterate 2 exact rfl);first|exact hrunA;(iterate 2 exact rfl);exact trivial;exact trivial|exact hrunB;(iterate 2 exact rfl);exact trivial;exact trivial)|refine Y30 ?_|refine Yd ?_|refine Y0 ?_|refine Y1 ?_|refine Y12 ?_))
  ((with_reducible apply W.seq);repeat (first|refine Y22 ?_|refine Y30 ?_|((with_reducible apply (RS.callO (vs:=[]) [] 2));(iterate 2 exact rfl);first|exact hrunX;(iterate 2 exact rfl);exact trivial;exact trivial|exact hrunY;(iterate 2 exact rfl);exact trivial;exact trivial)|((with_reducible apply RS.moveX);(iterate 3 exact rfl);exact (show bnd B.n (.pointer (some ⟨qb,0,none⟩)) by simpa using hQBn))|refine Yd ?_|refine Y0 ?_|refine Y1 ?_|refine Y12 ?_))
  refine W.absorbX fun C π4 a4=>?_
  have ra:C.m (π3 4)=some ⟨⟨[.int .i64 a.fin,.int .i64 a.exit,rowVl 1 (π3 0) a.out,rowVl 3 (π3 1) a.leaks,.int .i64 a.steps]⟩,71⟩:=a4.loc 4 (by decide:(4:Nat) < 12)
  have rb:C.m (π3 5)=some ⟨⟨[.int .i64 b.fin,.int .i64 b.exit,rowVl 1 (π3 2) b.out,rowVl 3 (π3 3) b.leaks,.int .i64 b.steps]⟩,71⟩:=a4.loc 5 (by decide:(5:Nat) < 12)
  have rx:C.m (π3 10)=some ⟨⟨[.int .i64 x.fin,.int .i64 x.exit,rowVl 1 (π3 6) x.out,rowVl 3 (π3 7) x.leaks,.int .i64 x.steps]⟩,71⟩:=a4.loc 10 (by decide:(10:Nat) < 12)
  have ry:C.m (π3 11)=some ⟨⟨[.int .i64 y.fin,.int .i64 y.exit,rowVl 1 (π3 8) y.out,rowVl 3 (π3 9) y.leaks,.int .i64 y.steps]⟩,71⟩:=a4.loc 11 (by decide:(11:Nat) < 12)
  have oa:C.m (π3 0)=rowBk intW 2 a.out:=a4.loc 0 (by decide:(0:Nat) < 12)
  have la:C.m (π3 1)=rowBk leakW 74 a.leaks:=a4.loc 1 (by decide:(1:Nat) < 12)
  have lb:C.m (π3 3)=rowBk leakW 74 b.leaks:=a4.loc 3 (by decide:(3:Nat) < 12)
  have ox:C.m (π3 6)=rowBk intW 2 x.out:=a4.loc 6 (by decide:(6:Nat) < 12)
  have lx:C.m (π3 7)=rowBk leakW 74 x.leaks:=a4.loc 7 (by decide:(7:Nat) < 12)
  have ly:C.m (π3 9)=rowBk leakW 74 y.leaks:=a4.loc 9 (by decide:(9:Nat) < 12)
  have ran:=a4.dom _ _ ra
  have rbn:=a4.dom _ _ rb
  have rxn:=a4.dom _ _ rx
  have ryn:=a4.dom _ _ ry
  by_cases h1:a.fin=0
  ·obtain ⟨x0,xe,xo,xs⟩:=hfour.run h1
   have ox':C.m (π3 6)=rowBk intW 2 a.out:=by rw [← xo];exact ox
   have hNu:∀ B':Hp,(∀ i,i < C.n→B'.m i=C.m i)→TF Tryd.prog 32 ⟨[rowVl 1 (π3 6) x.out,rowVl 1 (π3 0) a.out]⟩ B' (.bool true) B':=fun B' he=>by
    rw [xo]
    exact outsE_tf a.out _ _ B' (by rw [he _ (a4.hi 6 (by decide:(6:Nat) < 12))];exact ox') (by rw [he _ (a4.hi 0 (by decide:(0:Nat) < 12))];exact oa) hbA.out
   have hLeAB:∀ B':Hp,(∀ i,i < C.n→B'.m i=C.m i)→TF Tryd.prog 60 ⟨[rowVl 3 (π3 1) a.leaks,rowVl 3 (π3 3) b.leaks]⟩ B' (.bool lv) B':=fun B' he =>
    hLab B' _ _ (by rw [he _ (a4.hi 1 (by decide:(1:Nat) < 12))];exact la) (by rw [he _ (a4.hi 3 (by decide:(3:Nat) < 12))];exact lb)
   by_cases h2:b.fin=0
   ·cases lv with
    | true =>
     have hxy:=hfour.two h1 h2 (of_decide_eq_true hlv)
     have hLeXY:∀ B':Hp,(∀ i,i < C.n→B'.m i=C.m i)→TF Tryd.prog 60 ⟨[rowVl 3 (π3 7) x.leaks,rowVl 3 (π3 9) y.leaks]⟩ B' (.bool true) B':=fun B' he=>by
      have:=leaksD_tf x.leaks y.leaks _ _ B' (by rw [he _ (a4.hi 7 (by decide:(7:Nat) < 12))];exact lx) (by rw [he _ (a4.hi 9 (by decide:(9:Nat) < 12))];exact ly) hbX.leaks hbY.leaks
      rw [decide_eq_true hxy] at this
      exact this
     repeat (first|((with_reducible apply RS.load1B);(iterate 3 exact rfl);first|exact ra;exact ran;exact rfl|exact rb;exact rbn;exact rfl|exact rx;exact rxn;exact rfl|exact ry;exact ryn;exact rfl)|refine Y4b ?_|((with_reducible apply (RS.callA (g0:=60)));(iterate 3 exact rfl);first|exact fun B' hB'=>hLeAB B' hB'.old|exact fun B' hB'=>hLeXY B' hB'.old)|refine Y38 ?_|refine Yf ?_|refine Y8 ?_|refine Y3 ?_|refine Y2 ?_|refine Y0 ?_|refine Y2h ?_|refine Y1 ?_|refine Y5 ?_|refine Y6 ?_)
     exact endsK_ret _ (.cons (.tmp rfl) .nil) fun B' a=>⟨rfl,fun j z hj=>a.up _ _ (a4.up _ _ (hupB _ _ (a0.up _ _ hj)))⟩
    | false =>
     repeat (first|refine Y49 ?_|refine Y4b ?_|((with_reducible apply (RS.callA (g0:=60)));(iterate 3 exact rfl);exact fun B' hB'=>hLeAB B' hB'.old)|refine Y38 ?_|refine Yf ?_|refine Y8 ?_|refine Y3 ?_|refine Y2 ?_|refine Y0 ?_|refine Y2a ?_|refine Y1 ?_|refine Y6 ?_)
     exact endsK_ret _ (.cons (.tmp rfl) .nil) fun B' a=>⟨rfl,fun j z hj=>a.up _ _ (a4.up _ _ (hupB _ _ (a0.up _ _ hj)))⟩
   ·repeat (first|refine Y49 ?_|refine Y4b ?_|refine Y38 ?_|refine Yf ?_|refine Y8 ?_|refine Y3 ?_|refine Y2 ?_|refine Ym ?_|refine Y0 ?_|refine Y2a ?_|refine Y1 ?_|refine Y6 ?_)
    exact endsK_ret _ (.cons (.tmp rfl) .nil) fun B' a=>⟨rfl,fun j z hj=>a.up _ _ (a4.up _ _ (hupB _ _ (a0.up _ _ hj)))⟩
  ·repeat (first|((with_reducible apply RS.load1B);(iterate 3 exact rfl);exact ra;exact ran;exact rfl)|refine Yc ?_|refine Y8 ?_|refine Y2 ?_|refine Ym ?_|refine Y0 ?_|refine Y2a ?_|refine Y1 ?_|refine Y6 ?_)
   exact endsK_ret _ (.cons (.tmp rfl) .nil) fun B' a=>⟨rfl,fun j z hj=>a.up _ _ (a4.up _ _ (hupB _ _ (a0.up _ _ hj)))⟩
def plainD (x:InsS):Bool:=decide (x.op=1) || decide (x.op=2) || decide (x.op=22) || decide (x.op=26) || (twoS x.op && !trapsS x.op)
def lookD:List InsS→SetS→Bool
 | [],_=>true
 | x::l,s=>!(plainD x && !hasS s x.dst) && lookD l (backS s x)
def lookB (b:BlockS) (o:SetS):Bool:=lookD b.ins.reverse (useS o (treadsS b.term))
def GoodL (I:InsS→Prop) (bl:List BlockS):Prop:=∀ b∈bl,(∀ x∈b.ins,I x)∧GoodT b.term
theorem nlines_eq (bl:List BlockS):nlines bl=sizeS bl+2 * bl.length:=by
 induction bl with
 | nil=>rfl
 | cons b l ih =>
  simp only [nlines,sizeS,List.map_cons,List.sum_cons,List.length_cons] at ih ⊢
  omega
def ShowI (x:InsS):Prop:=x.ok∧x.args.length≤100000
structure ShowB (bl:List BlockS):Prop where
 good:GoodL ShowI bl
 len:bl.length≤100000
 size:sizeS bl≤1000000
theorem ShowB.ok {f:FuncS} (h:ShowB f.blocks) (hp:fitI f.params) (hn:f.name.data.size≤140737488351232):ShowOK f:=by
 refine ⟨hp,hn,by rw [nlines_eq];have:=h.len;have:=h.size;omega,fun b hb x hx=>(h.good b hb).1 x hx,fun b hb=>(h.good b hb).2,h.len⟩
end Go.Proofs.YtjhloakacicdiaaDoor
