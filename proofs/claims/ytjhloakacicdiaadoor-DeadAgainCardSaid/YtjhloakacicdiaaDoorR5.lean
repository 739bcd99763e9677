/-
  What the functions that the law reaches compute,told by plain data;it holds of programs that pass the check of right form and are light.
-/
import Derived.Carry
import Derived.LaidMore
import Derived.Lib.LaidTab
import Derived.OpenShut
import Derived.ProofKit
import Derived.Stop.Joined
import Derived.Test.YtjhloakacicdiaaDoorCards
import Derived.Test.YtjhloakacicdiaaDoorChecked
import Derived.Test.YtjhloakacicdiaaDoorR1
import Derived.Test.YtjhloakacicdiaaDoorR4
import Derived.Test.YtjhloakacicdiaaDoorS2
import Derived.Test.YtjhloakacicdiaaDoorTie
set_option linter.unusedVariables false
set_option linter.unusedSimpArgs false
namespace Go.Proofs.YtjhloakacicdiaaDoor
open Go.AH
attribute [local irreducible] W RS
theorem insT_size (x:InsS) (hx:x.ok) (hn:x.args.length≤100000):(insT x).data.size≤10200000:=by
  have hP0:=parts_ok x hx hn
  have hz:=itoaS_size x.off
  have h1:(offT x).length≤1∧∀ s∈offT x,s.data.size≤100:=by
    unfold offT
    split
    · exact ⟨by simp,fun s hs=>by cases hs⟩
    · refine ⟨by simp,fun s hs=>?_⟩
      rw [List.mem_singleton.1 hs,app_size]
      have e:(⟨#[43]⟩:ByteArray).data.size=1:=rfl
      omega
  have h2:(secT x).length≤1∧∀ s∈secT x,s.data.size≤100:=by
    unfold secT
    split
    · refine ⟨by simp,fun s hs=>?_⟩
      rw [List.mem_singleton.1 hs];exact Nat.le_of_ble_eq_true rfl
    · exact ⟨by simp,fun s hs=>by cases hs⟩
  have hp:(partsT x).length≤100006:=by
    unfold partsT
    have:=hP0.1
    simp only [List.length_append] at this ⊢
    omega
  have ha:∀ s∈partsT x,s.data.size≤100:=by
    intro s hs
    unfold partsT at hs
    rcases List.mem_append.1 hs with h|h
    · rcases List.mem_append.1 h with h|h
      · exact hP0.2 s h
      · exact h1.2 s h
    · exact h2.2 s h
  have hj:=join_le (partsT x) ⟨#[32]⟩ 100 ha
  have e:(insT x).data.size=(Lib.join ((partsT x).map (·.data.toList)) (⟨#[32]⟩:ByteArray).data.toList).length:=by
    unfold insT linesS
    simp
  have e2:(⟨#[32]⟩:ByteArray).data.size=1:=rfl
  rw [e2] at hj
  omega
def headF (f:FuncS):ByteArray:=f.name++⟨#[32]⟩++itoaS f.params++⟨#[58]⟩
def insL (x:InsS):ByteArray:=⟨#[32,32]⟩++insT x
def termT (t:TermS):ByteArray :=
  if t.kind=1 then ⟨#[32,32,106,117,109,112,32,98]⟩++itoaS t.goto
  else if t.kind=2 then ⟨#[32,32,105,102,32]⟩++nameS t.op++⟨#[32]⟩++argT t.a++⟨#[32]⟩++argT t.b++⟨#[32,98]⟩++itoaS t.goto++⟨#[32,101,108,115,101,32,98]⟩++itoaS t.els
  else ⟨#[32,32,114,101,116,32]⟩++argT t.a
def blockT (i:Nat) (b:BlockS):List ByteArray:=(⟨#[98]⟩++itoaS (i:Int)++⟨#[58]⟩)::(b.ins.map insL++[termT b.term])
def linesB:Nat→List BlockS→List ByteArray
  | _,[]=>[]
  | i,b::l=>blockT i b++linesB (i+1) l
def funcT (f:FuncS):ByteArray:=linesS (headF f::linesB 0 f.blocks) ⟨#[10]⟩++⟨#[10]⟩
theorem linesB_app:∀ (i:Nat) (a b:List BlockS),linesB i (a++b)=linesB i a++linesB (i+a.length) b
  | i,[],b=>by simp [linesB]
  | i,x::a,b=>by
    rw [List.cons_append,linesB,linesB,linesB_app (i+1) a b,List.append_assoc,List.length_cons]
    rw [show i+1+a.length=i+(a.length+1) by omega]
theorem linesB_take {bl:List BlockS} {i:Nat} {b:BlockS} (h:bl[i]?=some b):linesB 0 (bl.take (i+1))=linesB 0 (bl.take i)++blockT i b:=by
  have hl:=(List.getElem?_eq_some_iff.1 h).1
  rw [List.take_add_one,h,linesB_app,List.length_take,Nat.min_eq_left (Nat.le_of_lt hl),Nat.zero_add]
  simp [linesB]
def nlines (bl:List BlockS):Nat:=(bl.map fun b=>b.ins.length+2).sum
theorem linesB_len:∀ (i:Nat) (bl:List BlockS),(linesB i bl).length=nlines bl
  | _,[]=>rfl
  | i,b::l=>by
    have ih:=linesB_len (i+1) l
    unfold nlines at ih ⊢
    simp only [linesB,blockT,List.length_append,List.length_cons,List.length_map,List.length_nil,ih,List.map_cons,List.sum_cons]
theorem nlines_take:∀ {bl:List BlockS} {i:Nat} {b:BlockS},bl[i]?=some b→nlines (bl.take i)+(b.ins.length+2)≤nlines bl
  | [],_,_,h=>by simp at h
  | x::bl,0,b,h=>by
    simp only [List.getElem?_cons_zero,Option.some.injEq] at h
    subst h
    simp [nlines]
  | x::bl,i+1,b,h=>by
    have:=nlines_take (bl:=bl) (i:=i) (by simpa using h)
    unfold nlines at this ⊢
    simp only [List.take_succ_cons,List.map_cons,List.sum_cons]
    omega
theorem nlines_le {bl:List BlockS} (i:Nat):nlines (bl.take i)≤nlines bl:=by
  have:nlines bl=nlines (bl.take i)+nlines (bl.drop i):=by
    unfold nlines
    conv=>lhs;rw [← List.take_append_drop i bl]
    rw [List.map_append,List.sum_append]
  omega
structure GoodT (t:TermS):Prop where
  a:t.a.ok
  b:t.b.ok
  goto:fitI t.goto
  els:fitI t.els
  op:t.kind=2→0≤t.op∧t.op < 31
structure ShowOK (f:FuncS):Prop where
  par:fitI f.params
  name:f.name.data.size≤140737488351232
  lines:nlines f.blocks≤3000000
  ins:∀ b∈f.blocks,∀ x∈b.ins,x.ok∧x.args.length≤100000
  term:∀ b∈f.blocks,GoodT b.term
  len:f.blocks.length≤100000
theorem headF_size (f:FuncS):(headF f).data.size≤f.name.data.size+30:=by
  unfold headF
  rw [app_size,app_size,app_size]
  have:=itoaS_size f.params
  have e1:(⟨#[32]⟩:ByteArray).data.size=1:=rfl
  have e2:(⟨#[58]⟩:ByteArray).data.size=1:=rfl
  omega
theorem termT_size (t:TermS) (h:t.kind=2→0≤t.op∧t.op < 31):(termT t).data.size≤400:=by
  unfold termT
  have h1:=itoaS_size t.goto
  have h2:=itoaS_size t.els
  have h3:=argT_size t.a
  have h4:=argT_size t.b
  split
  · rw [app_size]
    have e:(⟨#[32,32,106,117,109,112,32,98]⟩:ByteArray).data.size=8:=rfl
    omega
  · split
    · rename_i hk
      have h5:=nameS_size t.op (h hk).1 (h hk).2
      repeat rw [app_size]
      have e1:(⟨#[32,32,105,102,32]⟩:ByteArray).data.size=5:=rfl
      have e2:(⟨#[32]⟩:ByteArray).data.size=1:=rfl
      have e3:(⟨#[32,98]⟩:ByteArray).data.size=2:=rfl
      have e4:(⟨#[32,101,108,115,101,32,98]⟩:ByteArray).data.size=7:=rfl
      omega
    · rw [app_size]
      have e:(⟨#[32,32,114,101,116,32]⟩:ByteArray).data.size=6:=rfl
      omega
theorem linesB_size:∀ (i:Nat) (bl:List BlockS),(∀ b∈bl,∀ x∈b.ins,x.ok∧x.args.length≤100000)→(∀ b∈bl,b.term.kind=2→0≤b.term.op∧b.term.op < 31)→∀ s∈linesB i bl,s.data.size≤10200002
  | _,[],_,_,s,hs=>by cases hs
  | i,b::l,hi,ht,s,hs=>by
    rw [linesB] at hs
    rcases List.mem_append.1 hs with h|h
    · unfold blockT at h
      rcases List.mem_cons.1 h with h|h
      · rw [h,app_size,app_size]
        have:=itoaS_size (i:Int)
        have e1:(⟨#[98]⟩:ByteArray).data.size=1:=rfl
        have e2:(⟨#[58]⟩:ByteArray).data.size=1:=rfl
        omega
      · rcases List.mem_append.1 h with h|h
        · obtain ⟨x,hx,rfl⟩:=List.mem_map.1 h
          obtain ⟨h1,h2⟩:=hi b (by simp) x hx
          have:=insT_size x h1 h2
          unfold insL
          rw [app_size]
          have e1:(⟨#[32,32]⟩:ByteArray).data.size=2:=rfl
          omega
        · rw [List.mem_singleton.1 h]
          have:=termT_size b.term (ht b (by simp))
          omega
    · exact linesB_size (i+1) l (fun c hc=>hi c (by simp [hc])) (fun c hc=>ht c (by simp [hc])) s h
theorem sz_lit (l:List UInt8):(⟨⟨l⟩⟩:ByteArray).size=l.length:=rfl
theorem itoa_sz (n:Int):(itoaS n).size≤24:=itoaS_size n
theorem argT_sz (a:ArgS):(argT a).size≤25:=argT_size a
set_option maxRecDepth 100000 in
set_option maxHeartbeats 0 in
theorem funcT_tf (f:FuncS) (hok:ShowOK f) (A1:Option Addr) (c1:Nat) (A2:Option Addr) (c2:Nat) (A3:Option Addr) (c3:Nat) (h:Hp) (hs:SlAt h A3 9 f.blocks (blockR h)) (hg:GT h) (ht:NT h):TF Tryd.prog 13 ⟨[.agg ⟨funcC f A1 c1 A2 c2 A3 c3⟩]⟩ h (.string (funcT f)) h:=by
  have hzp:=itoa_sz f.params
  have hzn:f.name.size≤140737488351232:=hok.name
  refine TF.exact (fn:=Tryd.f13) (c:=(Tryd.f13.body.getD .skip)) Tryd.func13 (by kernel_rfl) Tryd.ntmps13 (by kernel_rfl) (fun s0=>⟨Nat.le_refl _,by simp,fun i b hb=>⟨s0.dom i b hb,s0.bd i b hb⟩⟩) fun π s0=>?_
  conv=>arg 2;whnf
  ((with_reducible apply W.seq);repeat (first|((with_reducible first|apply RS.assign|apply RS.box);iterate 3 exact rfl)|((with_reducible apply RS.nil);exact mixed;kernel_rfl)|((with_reducible apply W.reg);kernel_rfl)|(with_reducible apply thenK_n)))
  refine W.absorbX fun B0 π0 a0=>?_
  have hF0:B0.m (π 0)=some ⟨⟨funcC f A1 c1 A2 c2 A3 c3⟩,37⟩:=a0.loc 0 (by decide:(0:Nat) < 1)
  generalize π 0=q at *
  have hFn0:=a0.dom _ _ hF0
  have hw0:rwM≤B0.n:=a0.sat.rw
  have hgB:=hg.up a0.up
  have hdB:=a0.dom
  have hF:=hF0
  have hFn:=hFn0
  ((with_reducible apply W.seq);repeat (first|((with_reducible apply RS.assign);iterate 3 exact rfl)|((with_reducible apply RS.nil);exact mixed;kernel_rfl)|((with_reducible apply W.reg);kernel_rfl)|(with_reducible apply thenK_n)))
  ((with_reducible apply W.seq);repeat (first|((with_reducible apply RS.strAdd);(iterate 4 exact rfl);((try simp only [ByteArray.size_append]);(try simp only [sz_lit,List.length_cons,List.length_nil]);omega))|((with_reducible apply RS.load1B);(iterate 3 exact rfl);exact hF;exact hFn;exact rfl)|((with_reducible apply RS.callB);(iterate 3 exact rfl);exact fun H hH=>(itoa_tf f.params hok.par H (hgB.up (base_upS hdB hH)));exact Nm_free (by simp))|((with_reducible apply RS.buildSlice);iterate 8 exact rfl)|((with_reducible apply RS.appendNil);(iterate 8 exact rfl);exact Nat.le_of_ble_eq_true rfl;exact Nat.le_of_ble_eq_true rfl;exact Nat.le_of_ble_eq_true rfl;exact Nat.le_of_ble_eq_true rfl)|((with_reducible first|apply RS.move|apply RS.assign|apply RS.fieldAddr);iterate 3 exact rfl)|((with_reducible apply RS.nil);exact mixed;kernel_rfl)|((with_reducible apply W.reg);kernel_rfl)|(with_reducible apply thenK_n)))
  have hLok:∀ i,(headF f::linesB 0 (f.blocks.take i)).length≤3000001:=by
    intro i
    have h1:=nlines_le (bl:=f.blocks) i
    have h2:=hok.lines
    rw [List.length_cons,linesB_len]
    omega
  refine W.absorbX fun B1 π1 a1=>?_
  have hR0:RowI B0 (π0 1) [headF f] B1:=⟨a1.oldH,fun _=>⟨a1.lo 1 (by decide:(1:Nat) < 2),(a1.loc 1 (by decide:(1:Nat) < 2)).trans rfl⟩⟩
  have hF:=hR0.old.up a0.dom _ _ hF0
  have hFn:=a1.dom _ _ hF
  have hs0:SlAt B0 A3 9 f.blocks (blockR B0):=hs.mono a0.up fun _ _ h=>blockR_mono a0.up h
  repeat (first|((with_reducible apply RS.load1B);(iterate 3 exact rfl);exact hF;exact hFn;exact rfl)|((with_reducible first|apply RS.move|apply RS.lenSl|apply RS.fieldAddr);iterate 3 exact rfl)|((with_reducible apply RS.nil);exact mixed;kernel_rfl)|(with_reducible first|apply W.seq|apply W.block|apply thenK_n)|((with_reducible apply W.reg);kernel_rfl))
  refine W.loopN (X:=Nat × Nat) (fun z=>[(1,.pointer (some ⟨q,0,none⟩)),(21,.slice A3 f.blocks.length c3),(22,.int .i64 (f.blocks.length:Int)),(23,.int .i64 (z.1:Int)),(3,rowVl 1 z.2 (strL (headF f::linesB 0 (f.blocks.take z.1))))]) (fun z B=>z.1≤f.blocks.length∧RowI B0 z.2 (headF f::linesB 0 (f.blocks.take z.1)) B) (fun z=>f.blocks.length - z.1)
    (fun B' a=>⟨(0,π0 1),?_,⟨Nat.zero_le _,hR0.up a1.dom a.oldH⟩⟩) ?_
  · (repeat' (first|exact trivial|exact rfl|apply And.intro));done
  rintro ⟨i,r⟩ B π2 sB ⟨hi,hRow0⟩
  dsimp only at hi hRow0 ⊢
  have hLen0:=hLok i
  have hLn:nlines (f.blocks.take i)≤nlines f.blocks:=nlines_le i
  have hll:(headF f::linesB 0 (f.blocks.take i)).length=nlines (f.blocks.take i)+1:=by rw [List.length_cons,linesB_len]
  have htot:=hok.lines
  have hNl:=hok.len
  generalize hLL:headF f::linesB 0 (f.blocks.take i)=L0 at *
  have hLL0:L0≠[]:=by rw [← hLL];simp
  by_cases hlt:i < f.blocks.length
  · obtain ⟨b,hb⟩:∃ b,f.blocks[i]?=some b:=⟨_,List.getElem?_eq_getElem hlt⟩
    have hbm:=List.mem_of_getElem? hb
    have hnb:=nlines_take hb
    obtain ⟨gb,go,gcs,ge,rfl,hG0,hGl,X1,y1,hGv,hBI⟩:=hs0.get i b hb
    have hG:=hRow0.old.up a0.dom _ _ hG0
    have hGn:=sB.dom _ _ hG
    have hfi:fitI (i:Int):=by unfold fitI;omega
    have hrB:=sB.dom _ _ (hRow0.row hLL0).2
    ((with_reducible apply W.seq);repeat (first|((with_reducible apply RS.cmpT);(iterate 4 exact rfl);(simp only [cmpP];omega))|((with_reducible apply RS.nil);exact mixed;kernel_rfl)|((with_reducible apply W.reg);kernel_rfl)|(with_reducible apply thenK_n)))
    ((with_reducible apply W.seq);repeat (first|(with_reducible first|apply W.skip|apply thenK_n)|((with_reducible apply W.condT);kernel_rfl;exact rfl)))
    ((with_reducible apply W.seq);repeat (first|(with_reducible apply W.block)))
    ((with_reducible apply W.seq);((with_reducible apply W.reg);kernel_rfl);repeat (first|((with_reducible apply RS.indexAddrS);(iterate 5 exact rfl);omega)|((with_reducible apply RS.loadNB);(iterate 3 exact rfl);exact hG;exact hGn;exact hGl;exact hGv)|((with_reducible first|apply RS.move|apply RS.assign);iterate 3 exact rfl)|((with_reducible apply RS.store);(iterate 5 exact rfl);exact Nat.le_of_ble_eq_true rfl;iterate 3 exact rfl)|((with_reducible apply RS.alloc);iterate 2 exact rfl)|((with_reducible apply RS.nil);exact mixed;kernel_rfl)));(with_reducible apply thenK_n)
    refine W.absorbX fun C π3 a3=>?_
    have hT0:C.m (π2 0)=some ⟨⟨blockC b X1 y1⟩,50⟩:=a3.loc 0 (by decide:(0:Nat) < 1)
    have htb:B.n≤π2 0:=a3.lo 0 (by decide:(0:Nat) < 1)
    generalize π2 0=tb at *
    have hTn0:=a3.dom _ _ hT0
    have hRow:=hRow0.up sB.dom a3.oldH
    have hgB:=hgB.up (hRow.old.up a0.dom)
    have hdB:=a3.dom
    have hLen:L0.length+1≤8000000000000:=by omega
    have hzi:=itoa_sz (i:Int)
    ((with_reducible apply W.seq);((with_reducible apply W.reg);kernel_rfl);repeat (first|((with_reducible apply RS.strAdd);(iterate 4 exact rfl);((try simp only [ByteArray.size_append]);(try simp only [sz_lit,List.length_cons,List.length_nil]);omega))|((with_reducible apply RS.callB);(iterate 3 exact rfl);exact fun H hH=>(itoa_tf (i:Int) hfi H (hgB.up (base_upS hdB hH)));exact Nm_free (by simp))|((with_reducible apply (RS.pushStr (h0:=B0)));(iterate 4 exact rfl);exact hw0;exact hRow;exact (fun B' a=>(a.loc 0 (by decide:(0:Nat) < 1)).trans rfl);exact hLen;intro r1 H1 π1 s1 hR1 hr1 ho1)|((with_reducible apply RS.buildSlice);iterate 8 exact rfl)|((with_reducible first|apply RS.move|apply RS.assign);iterate 3 exact rfl)|((with_reducible apply RS.nil);exact mixed;kernel_rfl)));(with_reducible apply thenK_n)
    have htr:tb≠r:=by omega
    have hT1:H1.m tb=some ⟨⟨blockC b X1 y1⟩,50⟩:=by rw [ho1.2 tb hTn0 htr];exact hT0
    have hr1t:tb < r1:=Nat.lt_of_lt_of_le hTn0 hr1
    have hRow1:=hR1
    have hT:=hT1
    have hTn:=s1.dom _ _ hT
    generalize hLb:L0++[⟨#[98]⟩++itoaS (i:Int)++⟨#[58]⟩]=Lb at *
    have hLbl:Lb.length=L0.length+1:=by rw [← hLb];simp
    have hLb0:Lb≠[]:=by rw [← hLb];simp
    have hbi:∀ k,k≤b.ins.length→(Lb++(b.ins.take k).map insL).length≤3000001:=by
      intro k hk
      rw [List.length_append,List.length_map,List.length_take,hLbl,hll]
      omega
    have hbt:=hok.term b hbm
    have hbo:=hbt.op
    repeat (first|((with_reducible apply RS.load1B);(iterate 3 exact rfl);exact hT;exact hTn;exact rfl)|((with_reducible first|apply RS.move|apply RS.lenSl|apply RS.fieldAddr);iterate 3 exact rfl)|((with_reducible apply RS.nil);exact mixed;kernel_rfl)|(with_reducible first|apply W.seq|apply W.block|apply thenK_n)|((with_reducible apply W.reg);kernel_rfl))
    refine W.loopN (X:=Nat × Nat) (fun z=>[(1,.pointer (some ⟨q,0,none⟩)),(21,.slice (some ⟨gb,go,none⟩) f.blocks.length c3),(22,.int .i64 (f.blocks.length:Int)),(23,.int .i64 (i:Int)),(5,.pointer (some ⟨tb,0,none⟩)),(36,.slice X1 b.ins.length y1),(37,.int .i64 (b.ins.length:Int)),(38,.int .i64 (z.1:Int)),(3,rowVl 1 z.2 (strL (Lb++(b.ins.take z.1).map insL)))]) (fun z D=>z.1≤b.ins.length∧RowI B0 z.2 (Lb++(b.ins.take z.1).map insL) D∧D.m tb=some ⟨⟨blockC b X1 y1⟩,50⟩∧tb < z.2) (fun z=>b.ins.length - z.1)
      (fun B' a=>⟨(0,r1),?_,⟨Nat.zero_le _,by rw [List.take_zero,List.map_nil,List.append_nil];exact hRow1.up s1.dom a.oldH,a.up _ _ hT1,hr1t⟩⟩) ?_
    · rw [List.take_zero,List.map_nil,List.append_nil]
      (repeat' (first|exact trivial|exact rfl|apply And.intro));done
    rintro ⟨k,r4⟩ D π4 sD ⟨hk,hRow,hT,hrt⟩
    dsimp only at hk hRow hrt ⊢
    have hTn:=sD.dom _ _ hT
    have hgB:=(hg.up a0.up).up (hRow.old.up a0.dom)
    have hdB:=sD.dom
    have hLen:(Lb++(b.ins.take k).map insL).length+1≤8000000000000:=by have:=hbi k hk;omega
    have htD:=(ht.up a0.up).up (hRow.old.up a0.dom)
    by_cases hkl:k < b.ins.length
    · obtain ⟨x,hx⟩:∃ x,b.ins[k]?=some x:=⟨_,List.getElem?_eq_getElem hkl⟩
      obtain ⟨hxo,hxn⟩:=hok.ins b hbm x (List.mem_of_getElem? hx)
      obtain ⟨xb,xo,xcs,xe,rfl,hI0,hIl,Z1,w1,hIv,hZ⟩:=hBI.get k x hx
      have hI:=hRow.old.up a0.dom _ _ hI0
      have hIn:=sD.dom _ _ hI
      have hzx:(insT x).size≤10200000:=insT_size x hxo hxn
      have etk:Lb++(b.ins.take (k+1)).map insL=Lb++(b.ins.take k).map insL++[⟨#[32,32]⟩++insT x]:=by
        rw [List.take_add_one,hx]
        simp [insL]
      have hZD:=hZ.mono (hRow.old.up a0.dom) fun _ _ h=>h
      repeat (first|((with_reducible apply RS.strAdd);(iterate 4 exact rfl);((try simp only [ByteArray.size_append]);(try simp only [sz_lit,List.length_cons,List.length_nil]);omega))|((with_reducible apply RS.loadNB);(iterate 3 exact rfl);exact hI;exact hIn;exact hIl;exact hIv)|((with_reducible apply (RS.callA (g0:=40)));(iterate 3 exact rfl);exact fun B' hB'=>insT_tf x hxo Z1 w1 B' (hZD.mono (fun i b hb=>hB'.up i b hb) fun _ _ h=>h) hxn (hgB.up fun i b hb=>hB'.up i b hb) (htD.up fun i b hb=>hB'.up i b hb))|((with_reducible apply RS.indexAddrS);(iterate 5 exact rfl);omega)|((with_reducible apply (RS.pushStr (h0:=B0)));(iterate 4 exact rfl);exact hw0;exact hRow;exact (fun B' a=>(a.loc 1 (by decide:(1:Nat) < 2)).trans rfl);exact hLen;intro r1 H1 π1 s1 hR1 hr1 ho1)|((with_reducible apply RS.buildSlice);iterate 8 exact rfl)|((with_reducible first|apply RS.move|apply RS.assign);iterate 3 exact rfl)|((with_reducible apply RS.cmpT);(iterate 4 exact rfl);(simp only [cmpP];omega))|((with_reducible apply RS.add1);(iterate 4 exact rfl);omega)|((with_reducible apply RS.loadN);(iterate 5 exact rfl);exact Nat.le_of_ble_eq_true rfl)|((with_reducible apply RS.store);(iterate 5 exact rfl);exact Nat.le_of_ble_eq_true rfl;iterate 3 exact rfl)|((with_reducible apply RS.alloc);iterate 2 exact rfl)|((with_reducible apply RS.nil);exact mixed;kernel_rfl)|(with_reducible first|apply W.seq|apply W.block|apply W.skip|apply thenK_n|apply blockK_n)|((with_reducible apply W.reg);kernel_rfl)|((with_reducible apply W.condT);kernel_rfl;exact rfl))
      refine roundN_n rfl fun B' y=>⟨(k+1,r1),?_,⟨by dsimp only;omega,by dsimp only;rw [etk];exact hR1.up s1.dom y.oldH,y.up _ _ (by rw [ho1.2 tb hTn (by omega)];exact hT),Nat.lt_of_lt_of_le hTn hr1⟩,by dsimp only;omega⟩
      dsimp only
      rw [etk]
      (repeat' (first|exact trivial|exact rfl|apply And.intro));done
    · have hke:k=b.ins.length:=by omega
      have e0:(b.ins.take k).map insL=b.ins.map insL:=by rw [hke,List.take_length]
      rw [e0] at hRow hLen ⊢
      have eall:headF f::linesB 0 (f.blocks.take (i+1))=Lb++b.ins.map insL++[termT b.term]:=by
        rw [linesB_take hb,← List.cons_append,hLL,← hLb]
        unfold blockT
        simp
      have hzg:=itoa_sz b.term.goto
      have hze:=itoa_sz b.term.els
      have hza:=argT_sz b.term.a
      have hzb:=argT_sz b.term.b
      have hkk:b.term.kind=1∨(¬ b.term.kind=1∧b.term.kind=2)∨(¬ b.term.kind=1∧¬ b.term.kind=2):=by omega
      rcases hkk with hk1|⟨hk1,hk2⟩|⟨hk1,hk2⟩
      · have et:termT b.term=⟨#[32,32,106,117,109,112,32,98]⟩++itoaS b.term.goto:=by unfold termT;rw [if_pos hk1]
        rw [et] at eall
        repeat (first|((with_reducible apply RS.strAdd);(iterate 4 exact rfl);((try simp only [ByteArray.size_append]);(try simp only [sz_lit,List.length_cons,List.length_nil]);omega))|((with_reducible apply RS.callB);(iterate 3 exact rfl);exact fun H hH=>(itoa_tf b.term.goto hbt.goto H (hgB.up (base_upS hdB hH)));exact Nm_free (by simp))|((with_reducible apply RS.loadNB);(iterate 3 exact rfl);exact hT;exact hTn;exact Nat.le_of_ble_eq_true rfl;exact (show takeV (0+1) 8 (blockC b X1 y1)=termC b.term from rfl))|((with_reducible apply (RS.pushStr (h0:=B0)));(iterate 4 exact rfl);exact hw0;exact hRow;exact (fun B' a=>(a.loc 1 (by decide:(1:Nat) < 2)).trans rfl);exact hLen;intro r1 H1 π1 s1 hR1 hr1 ho1)|((with_reducible apply RS.buildSlice);iterate 8 exact rfl)|((with_reducible first|apply RS.move|apply RS.assign|apply RS.fieldAddr);iterate 3 exact rfl)|((with_reducible apply RS.cmpT);(iterate 4 exact rfl);(simp only [cmpP];omega))|((with_reducible apply RS.cmpF);(iterate 4 exact rfl);(simp only [cmpN];omega))|((with_reducible apply RS.add1);(iterate 4 exact rfl);omega)|((with_reducible apply RS.load1);iterate 6 exact rfl)|((with_reducible apply RS.store);(iterate 5 exact rfl);exact Nat.le_of_ble_eq_true rfl;iterate 3 exact rfl)|((with_reducible apply RS.alloc);iterate 2 exact rfl)|((with_reducible apply RS.nil);exact mixed;kernel_rfl)|(with_reducible first|apply W.seq|apply W.block|apply W.exit|apply thenK_n|apply thenK_e|apply blockK_n|apply roundN_e)|((with_reducible apply W.reg);kernel_rfl)|((with_reducible apply W.condT);kernel_rfl;exact rfl)|((with_reducible apply W.condF);kernel_rfl;exact rfl)|((with_reducible apply blockK_hit);exact rfl))
        refine roundN_n rfl fun B' y=>⟨(i+1,r1),?_,⟨by dsimp only;omega,by dsimp only;rw [eall];exact hR1.up s1.dom y.oldH⟩,by dsimp only;omega⟩
        dsimp only
        rw [eall]
        (repeat' (first|exact trivial|exact rfl|apply And.intro));done
      · have et:termT b.term=⟨#[32,32,105,102,32]⟩++nameS b.term.op++⟨#[32]⟩++argT b.term.a++⟨#[32]⟩++argT b.term.b++⟨#[32,98]⟩++itoaS b.term.goto++⟨#[32,101,108,115,101,32,98]⟩++itoaS b.term.els:=by unfold termT;rw [if_neg hk1,if_pos hk2]
        rw [et] at eall
        obtain ⟨hop0,hop1⟩:=hbo hk2
        obtain ⟨te,hN⟩:=htD
        have hNn:=sD.dom _ _ hN
        have hat:=names_at (n:=b.term.op.toNat) (by omega)
        rw [Int.toNat_of_nonneg (by omega)] at hat
        have hzo:(nameS b.term.op).size≤24:=nameS_size _ hop0 hop1
        have hLne:Lb++b.ins.map insL≠[]:=by simp [hLb0]
        repeat (first|((with_reducible apply RS.strAdd);(iterate 4 exact rfl);((try simp only [ByteArray.size_append]);(try simp only [sz_lit,List.length_cons,List.length_nil]);omega))|((with_reducible apply RS.callB);(iterate 3 exact rfl);first|exact fun H hH=>(itoa_tf b.term.goto hbt.goto H (hgB.up (base_upS hdB hH)));exact Nm_free (by simp)|exact fun H hH=>(itoa_tf b.term.els hbt.els H (hgB.up (base_upS hdB hH)));exact Nm_free (by simp)|exact fun H hH=>(sarg_tf b.term.a hbt.a H (hgB.up (base_upS hdB hH)));exact Nm_free (by simp)|exact fun H hH=>(sarg_tf b.term.b hbt.b H (hgB.up (base_upS hdB hH)));exact Nm_free (by simp))|((with_reducible apply RS.loadNB);(iterate 3 exact rfl);exact hT;exact hTn;exact Nat.le_of_ble_eq_true rfl;exact (show takeV (0+1) 8 (blockC b X1 y1)=termC b.term from rfl))|((with_reducible apply RS.load1B);(iterate 3 exact rfl);exact hN;exact hNn;exact hat)|((with_reducible apply (RS.indexAddrArr (m:=b.term.op.toNat)));(iterate 3 exact rfl);exact (show _=_ from congrArg (fun z=>some (Value.int IntKind.i64 z)) (Int.toNat_of_nonneg (by omega)).symm);omega)|((with_reducible apply (RS.pushStrD (q:=1)));(iterate 4 exact rfl);exact hLne;exact (hRow.row hLne).2;exact (sD.dom _ _ (hRow.row hLne).2);exact (Nat.le_trans hw0 (hRow.row hLne).1);exact Nat.le_of_ble_eq_true rfl;exact rfl;exact hLen)|((with_reducible apply RS.buildSlice);iterate 8 exact rfl)|((with_reducible first|apply RS.move|apply RS.assign|apply RS.fieldAddr);iterate 3 exact rfl)|((with_reducible apply RS.cmpT);(iterate 4 exact rfl);(simp only [cmpP];omega))|((with_reducible apply RS.cmpF);(iterate 4 exact rfl);(simp only [cmpN];omega))|((with_reducible apply RS.add1);(iterate 4 exact rfl);omega)|((with_reducible apply RS.load1);iterate 6 exact rfl)|((with_reducible apply RS.loadN);(iterate 5 exact rfl);exact Nat.le_of_ble_eq_true rfl)|((with_reducible apply RS.store);(iterate 5 exact rfl);exact Nat.le_of_ble_eq_true rfl;iterate 3 exact rfl)|((with_reducible apply RS.alloc);iterate 2 exact rfl)|((with_reducible apply RS.nil);exact mixed;kernel_rfl)|(with_reducible first|apply W.seq|apply W.block|apply W.exit|apply thenK_n|apply thenK_e|apply blockK_n|apply roundN_e)|((with_reducible apply W.reg);kernel_rfl)|((with_reducible apply W.condT);kernel_rfl;exact rfl)|((with_reducible apply W.condF);kernel_rfl;exact rfl)|((with_reducible apply blockK_hit);exact rfl))
        have hRr:=hRow.row hLne
        refine roundN_n rfl fun B' y=>⟨(i+1,π4 2),?_,⟨by dsimp only;omega,?_⟩,by dsimp only;omega⟩
        · dsimp only
          rw [eall]
          (repeat' (first|exact trivial|exact rfl|apply And.intro));done
        · dsimp only
          rw [eall]
          refine ⟨⟨Nat.le_trans hRow.old.1 y.le,fun j hj=>?_⟩,fun _=>⟨Nat.le_trans hRow.old.1 (y.lo 2 (by decide:(2:Nat) < 3)),(y.loc 2 (by decide:(2:Nat) < 3)).trans rfl⟩⟩
          have e1:=y.old j (Nat.lt_of_lt_of_le hj hRow.old.1)
          rw [e1,← hRow.old.2 j hj]
          show (if j=r4 then none else D.m j)=D.m j
          rw [if_neg (by omega)]
      · have et:termT b.term=⟨#[32,32,114,101,116,32]⟩++argT b.term.a:=by unfold termT;rw [if_neg hk1,if_neg hk2]
        rw [et] at eall
        repeat (first|((with_reducible apply RS.strAdd);(iterate 4 exact rfl);((try simp only [ByteArray.size_append]);(try simp only [sz_lit,List.length_cons,List.length_nil]);omega))|((with_reducible apply RS.callB);(iterate 3 exact rfl);exact fun H hH=>(sarg_tf b.term.a hbt.a H (hgB.up (base_upS hdB hH)));exact Nm_free (by simp))|((with_reducible apply RS.loadNB);(iterate 3 exact rfl);exact hT;exact hTn;exact Nat.le_of_ble_eq_true rfl;exact (show takeV (0+1) 8 (blockC b X1 y1)=termC b.term from rfl))|((with_reducible apply (RS.pushStr (h0:=B0)));(iterate 4 exact rfl);exact hw0;exact hRow;exact (fun B' a=>(a.loc 1 (by decide:(1:Nat) < 2)).trans rfl);exact hLen;intro r1 H1 π1 s1 hR1 hr1 ho1)|((with_reducible apply RS.buildSlice);iterate 8 exact rfl)|((with_reducible first|apply RS.move|apply RS.assign|apply RS.fieldAddr);iterate 3 exact rfl)|((with_reducible apply RS.cmpF);(iterate 4 exact rfl);(simp only [cmpN];omega))|((with_reducible apply RS.add1);(iterate 4 exact rfl);omega)|((with_reducible apply RS.load1);iterate 6 exact rfl)|((with_reducible apply RS.loadN);(iterate 5 exact rfl);exact Nat.le_of_ble_eq_true rfl)|((with_reducible apply RS.store);(iterate 5 exact rfl);exact Nat.le_of_ble_eq_true rfl;iterate 3 exact rfl)|((with_reducible apply RS.alloc);iterate 2 exact rfl)|((with_reducible apply RS.nil);exact mixed;kernel_rfl)|(with_reducible first|apply W.seq|apply W.block|apply W.exit|apply thenK_n|apply thenK_e|apply blockK_n|apply roundN_e)|((with_reducible apply W.reg);kernel_rfl)|((with_reducible apply W.condF);kernel_rfl;exact rfl)|((with_reducible apply blockK_hit);exact rfl))
        refine roundN_n rfl fun B' y=>⟨(i+1,r1),?_,⟨by dsimp only;omega,by dsimp only;rw [eall];exact hR1.up s1.dom y.oldH⟩,by dsimp only;omega⟩
        dsimp only
        rw [eall]
        (repeat' (first|exact trivial|exact rfl|apply And.intro));done
  · have hni:i=f.blocks.length:=by omega
    have eall:L0=headF f::linesB 0 f.blocks:=by rw [← hLL,hni,List.take_length]
    have hsz:(Lib.join (L0.map (·.data.toList)) (⟨#[10]⟩:ByteArray).data.toList).length≤200000000000000:=by
      have hb:=linesB_size 0 f.blocks hok.ins fun c hc=>(hok.term c hc).op
      have h1:=headF_size f
      have h2:=hok.name
      rw [eall,List.map_cons,Lib.join_length,Lib.lens,List.map_cons,List.sum_cons,List.length_map,linesB_len]
      have h3:∀ l:List ByteArray,(∀ s∈l,s.data.size≤10200002)→((l.map (·.data.toList)).map (·.length)).sum≤l.length * 10200002:=by
        intro l
        induction l with
        | nil=>intro _;exact Nat.le_refl _
        | cons a l ih =>
          intro hl
          have i1:=ih fun s hs=>hl s (by simp [hs])
          have i2:=hl a (by simp)
          simp only [List.map_cons,List.sum_cons,List.length_cons,Array.length_toList]
          rw [Nat.succ_mul]
          omega
      have h4:=h3 _ hb
      rw [linesB_len] at h4
      have e1:(⟨#[10]⟩:ByteArray).data.toList.length=1:=rfl
      rw [e1,Array.length_toList]
      omega
    have hJ:∀ B',Old B B'→TF Tryd.prog 42 ⟨[rowVl 1 r (strL L0),.string ⟨#[10]⟩]⟩ B' (.string (linesS L0 ⟨#[10]⟩)) B':=fun B' o=>sjoinB_tf L0 _ r B' B0 (hRow0.up sB.dom o) hw0 (by omega) (by omega)
    have hzL:(linesS L0 ⟨#[10]⟩).size≤200000000000000:=by
      have e:(linesS L0 ⟨#[10]⟩).size=(Lib.join (L0.map (·.data.toList)) (⟨#[10]⟩:ByteArray).data.toList).length:=by
        unfold linesS
        show (Array.mk _).size=_
        simp
      rw [e];exact hsz
    have hfin:funcT f=linesS L0 ⟨#[10]⟩++⟨#[10]⟩:=by rw [eall];rfl
    repeat (first|((with_reducible apply RS.strAdd);(iterate 4 exact rfl);((try simp only [ByteArray.size_append]);(try simp only [sz_lit,List.length_cons,List.length_nil]);omega))|((with_reducible apply (RS.callA (g0:=42)));(iterate 3 exact rfl);exact fun B' hB'=>hJ B' hB'.oldH)|((with_reducible first|apply RS.move|apply RS.assign);iterate 3 exact rfl)|((with_reducible apply RS.cmpF);(iterate 4 exact rfl);(simp only [cmpN];omega))|((with_reducible apply RS.nil);exact mixed;kernel_rfl)|(with_reducible first|apply W.seq|apply W.exit|apply W.ret|apply thenK_n|apply thenK_e|apply roundN_e)|((with_reducible apply W.reg);kernel_rfl)|((with_reducible apply W.condF);kernel_rfl;exact rfl)|((with_reducible apply blockK_hit);exact rfl))
    exact endsK_ret _ (.cons (.tmp rfl) .nil) fun B' y=>⟨by rw [hfin];rfl,fun j x hj=>y.up _ _ (hRow0.old.up a0.dom _ _ (a0.up _ _ hj))⟩
end Go.Proofs.YtjhloakacicdiaaDoor
namespace Go.Proofs.YtjhloakacicdiaaDoor
open Go.AH
attribute [local irreducible] W RS
theorem funcT_size (f:FuncS) (hok:ShowOK f):(funcT f).size≤200000000000001:=by
  have hb:=linesB_size 0 f.blocks hok.ins fun c hc=>(hok.term c hc).op
  have h1:=headF_size f
  have h2:=hok.name
  have h5:=hok.lines
  have h3:∀ l:List ByteArray,(∀ s∈l,s.data.size≤10200002)→((l.map (·.data.toList)).map (·.length)).sum≤l.length * 10200002:=by
    intro l
    induction l with
    | nil=>intro _;exact Nat.le_refl _
    | cons a l ih =>
      intro hl
      have i1:=ih fun s hs=>hl s (by simp [hs])
      have i2:=hl a (by simp)
      simp only [List.map_cons,List.sum_cons,List.length_cons,Array.length_toList]
      rw [Nat.succ_mul]
      omega
  have h4:=h3 _ hb
  rw [linesB_len] at h4
  have e1:(⟨#[10]⟩:ByteArray).data.toList.length=1:=rfl
  have hj:(Lib.join ((headF f::linesB 0 f.blocks).map (·.data.toList)) (⟨#[10]⟩:ByteArray).data.toList).length≤200000000000000:=by
    rw [List.map_cons,Lib.join_length,Lib.lens,List.map_cons,List.sum_cons,List.length_map,linesB_len,e1,Array.length_toList]
    omega
  have e:(linesS (headF f::linesB 0 f.blocks) ⟨#[10]⟩).data.size=(Lib.join ((headF f::linesB 0 f.blocks).map (·.data.toList)) (⟨#[10]⟩:ByteArray).data.toList).length:=by
    unfold linesS
    simp
  unfold funcT
  show (linesS (headF f::linesB 0 f.blocks) ⟨#[10]⟩++⟨#[10]⟩).data.size≤_
  rw [app_size,e]
  have e3:(⟨#[10]⟩:ByteArray).data.size=1:=rfl
  omega
def progT:List FuncS→ByteArray:=fun l=>l.foldl (fun s f=>s++funcT f) ⟨#[]⟩
theorem progT_snoc (l:List FuncS) (f:FuncS):progT (l++[f])=progT l++funcT f:=by simp [progT]
theorem progT_go:∀ (l:List FuncS) (s:ByteArray),(∀ f∈l,ShowOK f)→(l.foldl (fun s f=>s++funcT f) s).size≤s.size+l.length * 200000000000001
  | [],s,_=>by show s.size≤s.size+0 * _;omega
  | f::l,s,h=>by
    have h1:=progT_go l (s++funcT f) fun g hg=>h g (by simp [hg])
    have h2:=funcT_size f (h f (by simp))
    rw [List.foldl_cons,List.length_cons]
    rw [ByteArray.size_append] at h1
    omega
theorem progT_size (l:List FuncS) (h:∀ f∈l,ShowOK f):(progT l).size≤l.length * 200000000000001:=by
  have h1:=progT_go l ⟨#[]⟩ h
  have e:(⟨#[]⟩:ByteArray).size=0:=rfl
  unfold progT
  omega
set_option maxRecDepth 100000 in
theorem progT_tf (p:ProgS) (hnf:p.funcs.length≤10000) (hok:∀ f∈p.funcs,ShowOK f) (P1:Option Addr) (d1:Nat) (P2:Option Addr) (d2:Nat) (h:Hp) (hg:GT h) (hnt:NT h) (hfs:SlAt h P1 6 p.funcs (funcRS h)) :
    TF Tryd.prog 25 ⟨[.agg ⟨progC p P1 d1 P2 d2⟩]⟩ h (.string (progT p.funcs)) h:=by
  refine TF.exact (fn:=Tryd.f25) (c:=(Tryd.f25.body.getD .skip)) Tryd.func25 (by kernel_rfl) Tryd.ntmps25 (by kernel_rfl) (fun s0=>⟨Nat.le_refl _,by simp,fun i b hb=>⟨s0.dom i b hb,s0.bd i b hb⟩⟩) fun π s0=>?_
  conv=>arg 2;whnf
  ((with_reducible apply W.seq);repeat (first|((with_reducible first|apply RS.assign|apply RS.box);iterate 3 exact rfl)|((with_reducible apply RS.nil);exact mixed;kernel_rfl)|((with_reducible apply W.reg);kernel_rfl)|(with_reducible apply thenK_n)))
  refine W.absorbX fun B0 π0 a0=>?_
  have m0:B0.m (π 0)=some ⟨⟨progC p P1 d1 P2 d2⟩,25⟩:=a0.loc 0 (by decide:(0:Nat) < 1)
  generalize π 0=pb at *
  have n0:=a0.dom _ _ m0
  repeat (first|((with_reducible apply RS.load1B);(iterate 3 exact rfl);exact m0;exact n0;exact rfl)|((with_reducible first|apply RS.move|apply RS.assign|apply RS.lenSl|apply RS.fieldAddr);iterate 3 exact rfl)|((with_reducible apply RS.nil);exact mixed;kernel_rfl)|(with_reducible first|apply W.seq|apply W.block|apply thenK_n)|((with_reducible apply W.reg);kernel_rfl))
  refine W.loopN (X:=Nat) (fun i=>[(3,.string (progT (p.funcs.take i))),(7,.slice P1 p.funcs.length d1),(8,.int .i64 (p.funcs.length:Int)),(9,.int .i64 (i:Int))]) (fun i B=>i≤p.funcs.length∧Old B0 B) (fun i=>p.funcs.length - i)
    (fun B' a=>⟨0,?_,⟨Nat.zero_le _,a.oldH⟩⟩) ?_
  · (repeat' (first|exact trivial|exact rfl|apply And.intro));done
  rintro i B π1 sB ⟨hi,old⟩
  have hup:=fun j b (hb:h.m j=some b)=>old.up a0.dom j b (a0.up j b hb)
  by_cases hlt:i < p.funcs.length
  · obtain ⟨f,hf⟩:∃ f,p.funcs[i]?=some f:=⟨_,List.getElem?_eq_getElem hlt⟩
    have hSh:=hok f (List.mem_of_getElem? hf)
    obtain ⟨gb,go,gcs,ge,rfl,hG0,hGl,B1,e1,B2,e2,B3,e3,sec,hGv,_,_,_,hsB⟩:=hfs.get i f hf
    have hG:=hup _ _ hG0
    have hGn:=sB.dom _ _ hG
    have hBl:=hsB.mono hup fun _ _ h=>blockR_mono hup h
    have hgB:=hg.up hup
    have hnB:=hnt.up hup
    have hz1:=funcT_size f hSh
    have hz2:=progT_size (p.funcs.take i) fun g hg=>hok g (List.mem_of_mem_take hg)
    rw [List.length_take] at hz2
    have hz3:min i p.funcs.length * 200000000000001≤10000 * 200000000000001:=Nat.mul_le_mul_right _ (by omega)
    have etk:progT (p.funcs.take (i+1))=progT (p.funcs.take i)++funcT f:=by
      rw [List.take_add_one,hf]
      exact progT_snoc _ _
    repeat (first|((with_reducible apply RS.indexAddrS);(iterate 5 exact rfl);omega)|((with_reducible apply RS.loadNB);(iterate 3 exact rfl);exact hG;exact hGn;exact hGl;exact hGv)|((with_reducible apply (RS.callA (g0:=13)));(iterate 3 exact rfl);exact fun B' hB'=>funcT_tf f hSh _ _ _ _ _ _ B' (hBl.mono (fun i b hb=>hB'.up i b hb) fun _ _ h=>blockR_mono (fun i b hb=>hB'.up i b hb) h) (hgB.up fun i b hb=>hB'.up i b hb) (hnB.up fun i b hb=>hB'.up i b hb))|((with_reducible apply RS.strAdd);(iterate 4 exact rfl);omega)|((with_reducible first|apply RS.move|apply RS.assign);iterate 3 exact rfl)|((with_reducible apply RS.cmpT);(iterate 4 exact rfl);(simp only [cmpP];omega))|((with_reducible apply RS.add1);(iterate 4 exact rfl);omega)|((with_reducible apply RS.loadN);(iterate 5 exact rfl);exact Nat.le_of_ble_eq_true rfl)|((with_reducible apply RS.store);(iterate 5 exact rfl);exact Nat.le_of_ble_eq_true rfl;iterate 3 exact rfl)|((with_reducible apply RS.alloc);iterate 2 exact rfl)|((with_reducible apply RS.nil);exact mixed;kernel_rfl)|(with_reducible first|apply W.seq|apply W.block|apply W.skip|apply thenK_n|apply blockK_n)|((with_reducible apply W.reg);kernel_rfl)|((with_reducible apply W.condT);kernel_rfl;exact rfl))
    refine roundN_n rfl fun B' a=>⟨i+1,?_,⟨by omega,old.trans a.oldH⟩,by omega⟩
    rw [etk]
    (repeat' (first|exact trivial|exact rfl|apply And.intro));done
  · have hni:i=p.funcs.length:=by omega
    have eall:progT (p.funcs.take i)=progT p.funcs:=by rw [hni,List.take_length]
    rw [eall]
    repeat (first|((with_reducible first|apply RS.move|apply RS.assign);iterate 3 exact rfl)|((with_reducible apply RS.cmpF);(iterate 4 exact rfl);(simp only [cmpN];omega))|((with_reducible apply RS.nil);exact mixed;kernel_rfl)|(with_reducible first|apply W.seq|apply W.exit|apply W.ret|apply thenK_n|apply thenK_e|apply roundN_e)|((with_reducible apply W.reg);kernel_rfl)|((with_reducible apply W.condF);kernel_rfl;exact rfl)|((with_reducible apply blockK_hit);exact rfl))
    exact endsK_ret _ (.cons (.tmp rfl) .nil) fun B' a=>⟨rfl,fun j x hj=>a.up _ _ (hup j x hj)⟩
end Go.Proofs.YtjhloakacicdiaaDoor
namespace Go.Proofs.YtjhloakacicdiaaDoor
open Go.AH
structure WaysOK (bl w:List BlockS):Prop where
  pos:0 < w.length
  le:w.length≤bl.length
  ok:∀ (i:Nat) (b:BlockS),w[i]?=some b→hasS (reachedS w) i=true∧¬ (b.term.kind=2∧b.term.goto=b.term.els)
  tgt:tgtOK w
end Go.Proofs.YtjhloakacicdiaaDoor
namespace Go.Proofs.YtjhloakacicdiaaDoor
open Go.AH
inductive Reach (bl:List BlockS):Int→Prop
  | zero:Reach bl 0
  | step {k k':Int} (h:Reach bl k) (hn:k'∈nextAt bl k):Reach bl k'
theorem nextAt_in {bl:List BlockS} (ht:tgtOK bl) {k k':Int} (h:k'∈nextAt bl k):0≤k'∧k' < bl.length:=by
  unfold nextAt at h
  split at h
  · rename_i b hb
    exact ht b (List.mem_of_getElem? hb) k' h
  · cases h
theorem Reach.in_ {bl:List BlockS} (hpos:0 < bl.length) (ht:tgtOK bl) {k:Int} (h:Reach bl k):0≤k∧k < bl.length:=by
  cases h with
  | zero=>omega
  | step _ hn=>exact nextAt_in ht hn
theorem reachPush_set {n:Nat} {k:Int} (hk:0≤k):∀ (l:List Int) (s:SetS) (w:List Int),n≤s.length * 64→(∀ x∈l,0≤x∧x < n)→(hasS (reachPush s w l).1 k=true↔hasS s k=true∨k∈l):=by
  intro l
  induction l with
  | nil=>intro s w _ _;simp [reachPush]
  | cons a l ih =>
    intro s w hs hl
    have ha:=hl a (by simp)
    unfold reachPush
    split
    · rename_i h
      rw [ih s w hs fun x hx=>hl x (by simp [hx])]
      constructor
      · rintro (h1|h1)
        · exact .inl h1
        · exact .inr (by simp [h1])
      · rintro (h1|h1)
        · exact .inl h1
        · rcases List.mem_cons.1 h1 with e|e
          · subst e;exact .inl h
          · exact .inr e
    · rw [ih (putS s a) (a::w) (by rw [putS_length];exact hs) fun x hx=>hl x (by simp [hx]),hasS_put]
      have:a.toNat / 64 < s.length:=by omega
      simp only [Bool.or_eq_true,Bool.and_eq_true,decide_eq_true_eq,List.mem_cons]
      constructor
      · rintro ((h1|⟨⟨h1,_⟩,_⟩)|h1)
        · exact .inl h1
        · exact .inr (.inl h1.symm)
        · exact .inr (.inr h1)
      · rintro (h1|h1|h1)
        · exact .inl (.inl h1)
        · subst h1
          exact .inl (.inr ⟨⟨rfl,hk⟩,this⟩)
        · exact .inr h1
theorem reachPush_work {n:Nat}:∀ (l:List Int) (s:SetS) (w:List Int),n≤s.length * 64→(∀ x∈l,0≤x∧x < n)→∀ x,(x∈(reachPush s w l).2→x∈w∨x∈l)∧(x∈w→x∈(reachPush s w l).2)∧(x∈l→hasS s x=false→x∈(reachPush s w l).2):=by
  intro l
  induction l with
  | nil=>intro s w _ _ x;exact ⟨fun h=>.inl h,fun h=>h,fun h=>by cases h⟩
  | cons a l ih =>
    intro s w hs hl x
    have ha:=hl a (by simp)
    unfold reachPush
    split
    · rename_i h
      obtain ⟨i1,i2,i3⟩:=ih s w hs (fun x hx=>hl x (by simp [hx])) x
      refine ⟨fun h1=>?_,i2,fun h1 h2=>?_⟩
      · rcases i1 h1 with h|h
        · exact .inl h
        · exact .inr (by simp [h])
      · rcases List.mem_cons.1 h1 with e|e
        · subst e;rw [h] at h2;cases h2
        · exact i3 e h2
    · obtain ⟨i1,i2,i3⟩:=ih (putS s a) (a::w) (by rw [putS_length];exact hs) (fun x hx=>hl x (by simp [hx])) x
      refine ⟨fun h1=>?_,fun h1=>i2 (by simp [h1]),fun h1 h2=>?_⟩
      · rcases i1 h1 with h|h
        · rcases List.mem_cons.1 h with e|e
          · subst e;exact .inr (by simp)
          · exact .inl e
        · exact .inr (by simp [h])
      · by_cases e:x=a
        · subst e;exact i2 (by simp)
        · rcases List.mem_cons.1 h1 with e1|e1
          · exact absurd e1 e
          · refine i3 e1 ?_
            rw [hasS_put,h2]
            simp
            intro e2
            exact absurd e2.symm e
theorem reachPush_lack {n:Nat}:∀ (l:List Int) (s:SetS) (w:List Int),n≤s.length * 64→(∀ x∈l,0≤x∧x < n)→lackS n (reachPush s w l).1+(reachPush s w l).2.length=lackS n s+w.length:=by
  intro l
  induction l with
  | nil=>intro s w _ _;rfl
  | cons a l ih =>
    intro s w hs hl
    have ha:=hl a (by simp)
    unfold reachPush
    split
    · exact ih s w hs fun x hx=>hl x (by simp [hx])
    · rename_i h
      rw [ih (putS s a) (a::w) (by rw [putS_length];exact hs) fun x hx=>hl x (by simp [hx])]
      have:=lackS_put (n:=n) (s:=s) (k:=a) ha.1 (by omega) (by simpa using h) (by omega)
      simp only [List.length_cons]
      omega
structure ReachV (bl:List BlockS) (s:SetS) (w:List Int):Prop where
  len:bl.length≤s.length * 64
  sound:∀ k:Int,0≤k→k < bl.length→hasS s k=true→Reach bl k
  work:∀ x∈w,0≤x∧x < bl.length∧hasS s x=true
  done:∀ k:Int,0≤k→k < bl.length→hasS s k=true→k∈w∨∀ k'∈nextAt bl k,hasS s k'=true
theorem reachGo_ok {bl:List BlockS} (ht:tgtOK bl):∀ (m:Nat) (s:SetS) (w:List Int),ReachV bl s w→lackS bl.length s+w.length≤m→ReachV bl (reachGo bl m s w) []:=by
  intro m
  induction m with
  | zero =>
    intro s w h hm
    have:w=[]:=List.length_eq_zero_iff.1 (by omega)
    subst this
    exact h
  | succ m ih =>
    intro s w h hm
    cases w with
    | nil=>exact h
    | cons n w =>
      rw [reachGo]
      have hl:∀ x∈nextAt bl n,0≤x∧x < bl.length:=fun x hx=>nextAt_in ht hx
      obtain ⟨n1,n2,n3⟩:=h.work n (by simp)
      have hlk:=reachPush_lack (nextAt bl n) s w h.len hl
      refine ih _ _ ⟨by rw [reachPush_len];exact h.len,fun k k0 k1 hk=>?_,fun x hx=>?_,fun k k0 k1 hk=>?_⟩ (by rw [hlk];simp only [List.length_cons] at hm;omega)
      · rcases (reachPush_set k0 (nextAt bl n) s w h.len hl).1 hk with h1|h1
        · exact h.sound k k0 k1 h1
        · exact .step (h.sound n n1 n2 n3) h1
      · rcases (reachPush_work (nextAt bl n) s w h.len hl x).1 hx with h1|h1
        · obtain ⟨a1,a2,a3⟩:=h.work x (by simp [h1])
          exact ⟨a1,a2,reachPush_has _ _ _ a3⟩
        · obtain ⟨a1,a2⟩:=hl x h1
          exact ⟨a1,a2,(reachPush_set a1 (nextAt bl n) s w h.len hl).2 (.inr h1)⟩
      · by_cases hks:hasS s k=true
        · rcases h.done k k0 k1 hks with h1|h1
          · rcases List.mem_cons.1 h1 with e|e
            · subst e
              exact .inr fun k' hk'=>(reachPush_set (hl k' hk').1 _ s w h.len hl).2 (.inr hk')
            · exact .inl ((reachPush_work (nextAt bl n) s w h.len hl k).2.1 e)
          · exact .inr fun k' hk'=>reachPush_has _ _ _ (h1 k' hk')
        · rcases (reachPush_set k0 (nextAt bl n) s w h.len hl).1 hk with h1|h1
          · exact absurd h1 hks
          · exact .inl ((reachPush_work (nextAt bl n) s w h.len hl k).2.2 h1 (by simpa using hks))
theorem lackS_le (n:Nat) (s:SetS):lackS n s≤n:=by
  unfold lackS
  have:=List.length_filter_le (fun i:Nat=>!hasS s (i:Int)) (List.range n)
  simpa using this
theorem reached_ok {bl:List BlockS} (hpos:0 < bl.length) (ht:tgtOK bl):ReachV bl (reachedS bl) []:=by
  have he:(emptyS (bl.length:Int)).length=(bl.length+63) / 64:=by rw [emptyS_length];omega
  have h0:∀ k:Int,hasS (putS (emptyS (bl.length:Int)) 0) k=true→k=0:=by
    intro k hk
    rw [hasS_put,hasS_empty] at hk
    simp at hk
    exact hk.1.1.symm
  unfold reachedS
  rw [if_neg (by omega)]
  refine reachGo_ok ht _ _ _ ⟨by rw [putS_length,he];omega,fun k _ _ hk=>?_,fun x hx=>?_,fun k _ _ hk=>?_⟩ (by have:=lackS_le bl.length (putS (emptyS (bl.length:Int)) 0);simp only [List.length_singleton];omega)
  · rw [h0 k hk];exact .zero
  · simp only [List.mem_singleton] at hx
    subst hx
    refine ⟨by omega,by omega,?_⟩
    rw [hasS_put,he]
    simp
    exact .inr (by omega)
  · rw [h0 k hk];exact .inl (by simp)
theorem reached_iff {bl:List BlockS} (hpos:0 < bl.length) (ht:tgtOK bl) {k:Int} (h0:0≤k) (h1:k < bl.length):hasS (reachedS bl) k=true↔Reach bl k:=by
  have hv:=reached_ok hpos ht
  refine ⟨hv.sound k h0 h1,fun h=>?_⟩
  clear h0 h1
  induction h with
  | zero=>exact reached_zero hpos
  | step h hn ih =>
    have hin:=h.in_ hpos ht
    rcases hv.done _ hin.1 hin.2 ih with h1|h1
    · cases h1
    · exact h1 _ hn
def NoEq (b:BlockS):Prop:=¬ (b.term.kind=2∧b.term.goto=b.term.els)
theorem turnT_noeq (bl:List BlockS) (t:TermS):¬ ((turnT bl t).kind=2∧(turnT bl t).goto=(turnT bl t).els):=by
  unfold turnT
  split
  · rename_i h;rintro ⟨h1,_⟩;rw [show t.kind=2 from h1] at h;cases h
  · split
    · split
      · rintro ⟨h1,_⟩;cases h1
      · rename_i h;rintro ⟨_,h2⟩;exact h h2
    · rename_i h;rintro ⟨h1,_⟩;exact h h1
theorem turnAt_get (bl:List BlockS) (i j:Nat) (b:BlockS) (h:(turnAt bl i)[j]?=some b):(i=j∧NoEq b)∨(i≠j∧bl[j]?=some b):=by
  unfold turnAt at h
  split at h
  · rename_i c hc
    rw [List.getElem?_set] at h
    split at h
    · rename_i e
      split at h
      · have h:=Option.some.inj h
        subst h
        exact .inl ⟨e,turnT_noeq bl c.term⟩
      · cases h
    · rename_i e
      exact .inr ⟨e,h⟩
  · rename_i hn
    by_cases e:i=j
    · subst e;rw [hn] at h;cases h
    · exact .inr ⟨e,h⟩
theorem turnUp_ok {n:Nat}:∀ (d:Nat) (bl:List BlockS),d≤n→bl.length=n→tgtOK bl→(∀ (j:Nat) (b:BlockS),j < n - d→bl[j]?=some b→NoEq b)→(∀ b∈turnUp n d bl,NoEq b)∧tgtOK (turnUp n d bl)∧(turnUp n d bl).length=n:=by
  intro d
  induction d with
  | zero =>
    intro bl _ hl ht hb
    refine ⟨fun b hbm=>?_,ht,hl⟩
    obtain ⟨j,hj⟩:=List.mem_iff_getElem?.1 hbm
    exact hb j b (by have h1:=(List.getElem?_eq_some_iff.1 hj).1;have h2:(turnUp n 0 bl).length=n:=hl;omega) hj
  | succ d ih =>
    intro bl hd hl ht hb
    rw [turnUp]
    obtain ⟨t1,t2⟩:=turnAt_ok ht (n - (d+1))
    refine ih _ (by omega) (by rw [t2];exact hl) t1 fun j b hj hjb=>?_
    rcases turnAt_get bl _ j b hjb with ⟨_,h⟩|⟨h1,h2⟩
    · exact h
    · exact hb j b (by omega) h2
theorem turnS_ok {bl:List BlockS} (ht:tgtOK bl):(∀ b∈turnS bl,NoEq b)∧tgtOK (turnS bl)∧(turnS bl).length=bl.length :=
  turnUp_ok bl.length bl (Nat.le_refl _) rfl ht fun j b hj=>by omega
structure MeltV (n:Nat) (bl:List BlockS):Prop where
  ne:∀ b∈bl,NoEq b
  tgt:tgtOK bl
  len:bl.length=n
theorem meltAt_ok {n:Nat} {bl:List BlockS} (h:MeltV n bl) (i:Nat) (k:Int):MeltV n (meltAt bl i k):=by
  cases hb:bl[i]? with
  | none =>
    have:meltAt bl i k=bl:=by unfold meltAt;rw [hb]
    rw [this];exact h
  | some b =>
    cases ho:bl[k.toNat]? with
    | none =>
      have:meltAt bl i k=bl:=by unfold meltAt;rw [hb,ho]
      rw [this];exact h
    | some o =>
      refine ⟨fun x hx=>?_,melt_tgt h.tgt hb ho,by rw [melt_len];exact h.len⟩
      rw [melt_eq hb ho] at hx
      rcases List.mem_or_eq_of_mem_set hx with h1|h1
      · rcases List.mem_or_eq_of_mem_set h1 with h2|h2
        · exact h.ne x h2
        · rw [h2];exact h.ne o (List.mem_of_getElem? ho)
      · rw [h1];rintro ⟨h2,_⟩;cases h2
theorem meltGo_ok {n i:Nat}:∀ (m:Nat) (bl:List BlockS) (r:SetS),MeltV n bl→MeltV n (meltGo i m bl r):=by
  intro m
  induction m with
  | zero=>intro bl r h;exact h
  | succ m ih =>
    intro bl r h
    rw [meltGo]
    split
    · split
      · exact h
      · exact ih _ _ (meltAt_ok h _ _)
    · exact h
theorem meltI_ok {n:Nat} {bl:List BlockS} (h:MeltV n bl) (i:Nat):MeltV n (meltI bl i):=by
  unfold meltI
  split
  · exact meltGo_ok _ _ _ h
  · exact h
theorem meltUp_ok {n q:Nat}:∀ (d:Nat) (bl:List BlockS),MeltV n bl→MeltV n (meltUp q d bl):=by
  intro d
  induction d with
  | zero=>intro bl h;exact h
  | succ d ih=>intro bl h;rw [meltUp];exact ih _ (meltI_ok h _)
theorem keptL_app (r:SetS):∀ (a b:List BlockS) (j:Nat),keptL r j (a++b)=keptL r j a++keptL r (j+a.length) b:=by
  intro a
  induction a with
  | nil=>intro b j;rfl
  | cons x a ih =>
    intro b j
    have e:j+(x::a).length=j+1+a.length:=by simp;omega
    rw [List.cons_append,keptL,keptL,ih b (j+1),e]
    split<;>rfl
theorem keptL_len (r:SetS):∀ (bl:List BlockS) (j:Nat),(keptL r j bl).length≤bl.length:=by
  intro bl
  induction bl with
  | nil=>intro j;exact Nat.le_refl _
  | cons x a ih =>
    intro j
    have:=ih (j+1)
    rw [keptL]
    split<;>simp<;>omega
def posL (r:SetS) (bl:List BlockS) (k:Nat):Nat:=(keptL r 0 (bl.take k)).length
theorem kept_get {r:SetS} {bl:List BlockS} {k:Nat} {b:BlockS} (hb:bl[k]?=some b) (hk:hasS r (k:Int)=true):(keptL r 0 bl)[posL r bl k]?=some b∧posL r bl (k+1)=posL r bl k+1:=by
  obtain ⟨h1,h2⟩:=List.getElem?_eq_some_iff.1 hb
  have e1:bl=bl.take k++b::bl.drop (k+1):=by
    rw [← h2,← List.drop_eq_getElem_cons h1,List.take_append_drop]
  have hl:(bl.take k).length=k:=by simp;omega
  have hd:keptL r k (b::bl.drop (k+1))=b::keptL r (k+1) (bl.drop (k+1)):=by rw [keptL,if_pos hk]
  constructor
  · have e2:keptL r 0 bl=keptL r 0 (bl.take k)++(b::keptL r (k+1) (bl.drop (k+1))):=by
      have e3:keptL r 0 bl=keptL r 0 (bl.take k++b::bl.drop (k+1)):=by rw [← e1]
      rw [e3,keptL_app,hl,Nat.zero_add,hd]
    rw [e2]
    unfold posL
    rw [List.getElem?_append_right (Nat.le_refl _),Nat.sub_self];rfl
  · unfold posL
    rw [List.take_succ_eq_append_getElem h1,h2,keptL_app,hl,Nat.zero_add,List.length_append]
    have:keptL r k [b]=[b]:=by rw [keptL,if_pos hk];rfl
    rw [this];rfl
theorem posL_mono (r:SetS) (bl:List BlockS):∀ (d k:Nat),posL r bl k≤posL r bl (k+d):=by
  intro d k
  have e:bl.take (k+d)=bl.take k++(bl.drop k).take d:=by rw [List.take_add]
  unfold posL
  rw [e,keptL_app,List.length_append]
  omega
theorem pos_inj {r:SetS} {bl:List BlockS} {k1 k2:Nat} {b1 b2:BlockS} (h1:bl[k1]?=some b1) (h2:bl[k2]?=some b2) (q1:hasS r (k1:Int)=true) (q2:hasS r (k2:Int)=true) (he:posL r bl k1=posL r bl k2):k1=k2:=by
  rcases Nat.lt_trichotomy k1 k2 with h|h|h
  · have g:=(kept_get h1 q1).2
    have g2:=posL_mono r bl (k2 - (k1+1)) (k1+1)
    rw [show k1+1+(k2 - (k1+1))=k2 by omega] at g2
    omega
  · exact h
  · have g:=(kept_get h2 q2).2
    have g2:=posL_mono r bl (k1 - (k2+1)) (k2+1)
    rw [show k2+1+(k1 - (k2+1))=k1 by omega] at g2
    omega
theorem kept_inv {r:SetS}:∀ (bl:List BlockS) (j i:Nat),i < (keptL r j bl).length→∃ k b,bl[k]?=some b∧hasS r ((j+k:Nat):Int)=true∧(keptL r j (bl.take k)).length=i:=by
  intro bl
  induction bl with
  | nil=>intro j i h;simp [keptL] at h
  | cons x bl ih =>
    intro j i h
    rw [keptL] at h
    split at h
    · rename_i hx
      cases i with
      | zero=>exact ⟨0,x,rfl,hx,rfl⟩
      | succ i =>
        obtain ⟨k,b,h1,h2,h3⟩:=ih (j+1) i (by simpa using h)
        refine ⟨k+1,b,by simpa using h1,by rw [show j+(k+1)=j+1+k by omega];exact h2,?_⟩
        rw [List.take_succ_cons,keptL,if_pos hx,List.length_cons,h3]
    · rename_i hx
      obtain ⟨k,b,h1,h2,h3⟩:=ih (j+1) i h
      refine ⟨k+1,b,by simpa using h1,by rw [show j+(k+1)=j+1+k by omega];exact h2,?_⟩
      rw [List.take_succ_cons,keptL,if_neg hx,h3]
theorem placesL_get (r:SetS):∀ (bl:List BlockS) (i n k:Nat),k < bl.length→(placesS r bl.length i n)[k]?=some ((n+(keptL r i (bl.take k)).length:Nat):Int):=by
  intro bl
  induction bl with
  | nil=>intro i n k h;simp at h
  | cons a bl ih =>
    intro i n k h
    cases k with
    | zero=>simp [placesS,keptL]
    | succ k =>
      have hk:k < bl.length:=by simpa using h
      rw [List.length_cons,placesS,List.getElem?_cons_succ,ih (i+1) _ k hk,List.take_succ_cons,keptL]
      split
      · simp only [List.length_cons];congr 2;omega
      · rfl
theorem dropS_ok {bl:List BlockS} (hpos:0 < bl.length) (ht:tgtOK bl) (hne:∀ b∈bl,NoEq b):WaysOK bl (dropS bl):=by
  have hv:=reached_ok hpos ht
  have hz:=reached_zero hpos
  obtain ⟨r,hr⟩:∃ r,reachedS bl=r:=⟨_,rfl⟩
  have hriff:∀ {k:Int},0≤k→k < bl.length→(hasS r k=true↔Reach bl k):=fun h0 h1=>by rw [← hr];exact reached_iff hpos ht h0 h1
  rw [hr] at hv hz
  obtain ⟨pl,hpl⟩:∃ pl,placesS r bl.length 0 0=pl:=⟨_,rfl⟩
  have hdr:dropS bl=(keptL r 0 bl).map fun b=>{ b with term:=placeT pl b.term }:=by unfold dropS;rw [hr,hpl]
  have hplk:∀ k:Int,0≤k→k < bl.length→pl[k.toNat]?.getD 0=(posL r bl k.toNat:Int):=by
    intro k h0 h1
    have:=placesL_get r bl 0 0 k.toNat (by omega)
    rw [hpl,Nat.zero_add] at this
    rw [this];rfl
  have hclosed:∀ {k:Nat} {b:BlockS},bl[k]?=some b→hasS r (k:Int)=true→∀ k'∈nextS b.term,(0≤k'∧k' < bl.length)∧hasS r k'=true:=by
    intro k b hb hk k' hk'
    have hin:=ht b (List.mem_of_getElem? hb) k' hk'
    have hkl:=(List.getElem?_eq_some_iff.1 hb).1
    refine ⟨hin,?_⟩
    rcases hv.done (k:Int) (by omega) (by omega) hk with h1|h1
    · cases h1
    · refine h1 k' ?_
      unfold nextAt
      rw [Int.toNat_natCast,hb];exact hk'
  have hnext:∀ {k:Nat} {b:BlockS},bl[k]?=some b→hasS r (k:Int)=true→nextS (placeT pl b.term)=(nextS b.term).map fun k'=>(posL r bl k'.toNat:Int):=by
    intro k b hb hk
    have hc:=hclosed hb hk
    by_cases k1:b.term.kind=1
    · have e:=nextS_1 k1
      rw [e] at hc ⊢
      have h1:=hc b.term.goto (by simp)
      unfold placeT
      rw [if_pos k1,nextS_1 (t:={ b.term with goto:=pl[b.term.goto.toNat]?.getD 0 }) k1,hplk _ h1.1.1 h1.1.2];rfl
    · by_cases k2:b.term.kind=2
      · have e:=nextS_2 k2
        rw [e] at hc ⊢
        have h1:=hc b.term.goto (by simp)
        have h2:=hc b.term.els (by simp)
        unfold placeT
        rw [if_neg k1,if_pos k2,nextS_2 (t:={ b.term with goto:=pl[b.term.goto.toNat]?.getD 0,els:=pl[b.term.els.toNat]?.getD 0 }) k2,hplk _ h1.1.1 h1.1.2,hplk _ h2.1.1 h2.1.2];rfl
      · have e:nextS b.term=[]:=by unfold nextS;rw [if_neg k1,if_neg k2]
        unfold placeT
        rw [if_neg k1,if_neg k2,e];rfl
  have hget:∀ {k:Nat} {b:BlockS},bl[k]?=some b→hasS r (k:Int)=true→(dropS bl)[posL r bl k]?=some { b with term:=placeT pl b.term }:=by
    intro k b hb hk
    rw [hdr,List.getElem?_map,(kept_get hb hk).1];rfl
  have hinv:∀ {i:Nat} {x:BlockS},(dropS bl)[i]?=some x→∃ (k:Nat) (b:BlockS),bl[k]?=some b∧hasS r (k:Int)=true∧posL r bl k=i∧x={ b with term:=placeT pl b.term }:=by
    intro i x hx
    have hi:i < (keptL r 0 bl).length:=by
      have:=(List.getElem?_eq_some_iff.1 hx).1
      rw [hdr,List.length_map] at this;exact this
    obtain ⟨k,b,h1,h2,h3⟩:=kept_inv bl 0 i hi
    rw [Nat.zero_add] at h2
    have h4:posL r bl k=i:=h3
    have:=hget h1 h2
    rw [h4,hx] at this
    exact ⟨k,b,h1,h2,h4,Option.some.inj this⟩
  have hposw:0 < (dropS bl).length:=by
    obtain ⟨b0,hb0⟩:∃ b,bl[0]?=some b:=⟨_,List.getElem?_eq_getElem hpos⟩
    have:=(List.getElem?_eq_some_iff.1 (hget hb0 hz)).1
    omega
  have htw:tgtOK (dropS bl):=by
    intro x hx q hq
    obtain ⟨i,hi⟩:=List.mem_iff_getElem?.1 hx
    obtain ⟨k,b,h1,h2,_,rfl⟩:=hinv hi
    have hq:q∈nextS (placeT pl b.term):=hq
    rw [hnext h1 h2] at hq
    obtain ⟨k',hk',rfl⟩:=List.mem_map.1 hq
    obtain ⟨hin,hkk⟩:=hclosed h1 h2 k' hk'
    obtain ⟨b',hb'⟩:∃ b',bl[k'.toNat]?=some b':=⟨_,List.getElem?_eq_getElem (by omega)⟩
    have:=(List.getElem?_eq_some_iff.1 (hget hb' (by rw [Int.toNat_of_nonneg hin.1];exact hkk))).1
    omega
  have hreach:∀ {k:Int},Reach bl k→Reach (dropS bl) (posL r bl k.toNat:Int):=by
    intro k h
    induction h with
    | zero=>exact .zero
    | step h hn ih =>
      rename_i k k'
      have hin:=h.in_ hpos ht
      obtain ⟨b,hb⟩:∃ b,bl[k.toNat]?=some b:=⟨_,List.getElem?_eq_getElem (by omega)⟩
      have hk:hasS r ((k.toNat:Nat):Int)=true:=by rw [Int.toNat_of_nonneg hin.1];exact (hriff hin.1 hin.2).2 h
      refine .step ih ?_
      unfold nextAt
      rw [Int.toNat_natCast,hget hb hk]
      show _∈nextS (placeT pl b.term)
      rw [hnext hb hk]
      unfold nextAt at hn
      rw [hb] at hn
      exact List.mem_map_of_mem hn
  refine ⟨hposw,by rw [hdr,List.length_map];exact keptL_len r bl 0,fun i x hx=>?_,htw⟩
  obtain ⟨k,b,h1,h2,h3,rfl⟩:=hinv hx
  have hil:=(List.getElem?_eq_some_iff.1 hx).1
  have hkl:=(List.getElem?_eq_some_iff.1 h1).1
  refine ⟨?_,?_⟩
  · rw [reached_iff hposw htw (by omega) (by omega)]
    have:=hreach ((hriff (by omega) (by omega)).1 h2)
    rw [Int.toNat_natCast,h3] at this
    exact this
  · rintro ⟨e1,e2⟩
    have hk2:b.term.kind=2:=by
      unfold placeT at e1
      split at e1
      · exact e1
      · split at e1
        · exact e1
        · exact e1
    have hc:=hclosed h1 h2
    rw [nextS_2 hk2] at hc
    obtain ⟨g1,g2⟩:=hc b.term.goto (by simp)
    obtain ⟨g3,g4⟩:=hc b.term.els (by simp)
    have e2:(placeT pl b.term).goto=(placeT pl b.term).els:=e2
    unfold placeT at e2
    rw [if_neg (by omega),if_pos hk2] at e2
    have e2:pl[b.term.goto.toNat]?.getD 0=pl[b.term.els.toNat]?.getD 0:=e2
    rw [hplk _ g1.1 g1.2,hplk _ g3.1 g3.2] at e2
    obtain ⟨c1,hc1⟩:∃ c,bl[b.term.goto.toNat]?=some c:=⟨_,List.getElem?_eq_getElem (by omega)⟩
    obtain ⟨c2,hc2⟩:∃ c,bl[b.term.els.toNat]?=some c:=⟨_,List.getElem?_eq_getElem (by omega)⟩
    have:=pos_inj hc1 hc2 (by rw [Int.toNat_of_nonneg g1.1];exact g2) (by rw [Int.toNat_of_nonneg g3.1];exact g4) (by omega)
    exact hne b (List.mem_of_getElem? h1) ⟨hk2,by omega⟩
theorem waysS_ok {bl:List BlockS} (hpos:0 < bl.length) (ht:tgtOK bl):WaysOK bl (waysS bl):=by
  obtain ⟨t1,t2,t3⟩:=turnS_ok ht
  have hm:MeltV bl.length (meltS (turnS bl)):=meltUp_ok _ _ ⟨t1,t2,t3⟩
  have:=dropS_ok (bl:=meltS (turnS bl)) (by rw [hm.len];exact hpos) hm.tgt hm.ne
  exact ⟨this.pos,by have h:=this.le;rw [hm.len] at h;exact h,this.ok,this.tgt⟩
end Go.Proofs.YtjhloakacicdiaaDoor
namespace Go.Proofs.YtjhloakacicdiaaDoor
open Go.AH
theorem LessL.same:∀ {bl bl':List BlockS},LessL bl bl'→sizeS bl'=sizeS bl→bl'=bl
  | [],bl',h,_=>List.length_eq_zero_iff.1 h.1
  | b::bl,[],h,_=>by have:=h.1;simp at this
  | b::bl,b'::bl',h,he=>by
    have ht:LessL bl bl':=⟨by have:=h.1;simpa using this,fun i x y hx hy=>h.2 (i+1) x y (by simpa using hx) (by simpa using hy)⟩
    obtain ⟨h1,h2⟩:=h.2 0 b b' rfl rfl
    have hl:=h2.length_le
    have hs:=ht.size
    unfold sizeS at he hs
    simp only [List.map_cons,List.sum_cons] at he
    have e1:b'.ins=b.ins:=h2.eq_of_length (by omega)
    have e2:bl'=bl:=LessL.same ht (by unfold sizeS;omega)
    have e3:b'=b:=by cases b;cases b';simp_all
    rw [e2,e3]
theorem CodeS.fix {regs:Int} {bl bl':List BlockS} (h:CodeS regs bl bl'):OnceS regs bl' bl':=by
  induction h with
  | stop h he =>
    have:=h.less.same he
    subst this
    exact h
  | go _ _ _ ih=>exact ih
theorem OnceS.det {regs:Int} {bl a b:List BlockS} (h1:OnceS regs bl a) (h2:OnceS regs bl b):a=b:=by
  cases h1 with
  | mk h1 =>
    cases h2 with
    | mk h2=>rw [h1.det h2]
theorem CodeS.again {regs:Int} {bl bl' bl2:List BlockS} (h:CodeS regs bl bl') (h2:CodeS regs bl' bl2):bl2=bl':=by
  cases h2 with
  | stop h' _=>exact h'.det h.fix
  | go h' hn _=>exact absurd (by rw [h'.det h.fix]) hn
def plainD (x:InsS):Bool:=decide (x.op=1) || decide (x.op=2) || decide (x.op=22) || decide (x.op=26) || (twoS x.op && !trapsS x.op)
def lookD:List InsS→SetS→Bool
  | [],_=>true
  | x::l,s=>!(plainD x && !hasS s x.dst) && lookD l (backS s x)
def lookB (b:BlockS) (o:SetS):Bool:=lookD b.ins.reverse (useS o (treadsS b.term))
end Go.Proofs.YtjhloakacicdiaaDoor
namespace Go.Proofs.YtjhloakacicdiaaDoor
open Go.AH
def GoodL (I:InsS→Prop) (bl:List BlockS):Prop:=∀ b∈bl,(∀ x∈b.ins,I x)∧GoodT b.term
theorem fit_zero:fitI 0:=⟨by omega,by omega⟩
theorem goodT_jump {k:Int} (h:fitI k):GoodT (jumpT k):=⟨⟨fit_zero,fit_zero⟩,⟨fit_zero,fit_zero⟩,h,fit_zero,fun hk=>absurd hk (show ¬ (1:Int)=2 by decide)⟩
theorem goodT_ret:GoodT retT:=⟨⟨⟨by show (_:Int)≤-1;omega,by show (-1:Int)≤_;omega⟩,fit_zero⟩,⟨fit_zero,fit_zero⟩,fit_zero,fit_zero,fun hk=>absurd hk (show ¬ (3:Int)=2 by decide)⟩
theorem throughGo_fit {I:InsS→Prop} {bl:List BlockS} (h:GoodL I bl):∀ (n:Nat) {k:Int},fitI k→fitI (throughGo bl n k)
  | 0,_,hk=>hk
  | n+1,k,hk=>by
    rw [throughGo]
    split
    · rename_i b hb
      split
      · exact hk
      · exact throughGo_fit h n (h b (List.mem_of_getElem? hb)).2.goto
    · exact hk
theorem turnT_good {I:InsS→Prop} {bl:List BlockS} (h:GoodL I bl) {t:TermS} (ht:GoodT t):GoodT (turnT bl t):=by
  unfold turnT
  have hg:=throughGo_fit h bl.length ht.goto
  have he:=throughGo_fit h bl.length ht.els
  split
  · exact ⟨ht.a,ht.b,hg,ht.els,ht.op⟩
  · split
    · split
      · exact goodT_jump hg
      · exact ⟨ht.a,ht.b,hg,he,ht.op⟩
    · exact ht
theorem GoodL.set {I:InsS→Prop} {bl:List BlockS} (h:GoodL I bl) {i:Nat} {b:BlockS} (hb:(∀ x∈b.ins,I x)∧GoodT b.term):GoodL I (bl.set i b):=by
  intro c hc
  rcases List.mem_or_eq_of_mem_set hc with e|e
  · exact h c e
  · rw [e];exact hb
theorem turnAt_good {I:InsS→Prop} {bl:List BlockS} (h:GoodL I bl) (i:Nat):GoodL I (turnAt bl i):=by
  unfold turnAt
  split
  · rename_i b hb
    have hm:=h b (List.mem_of_getElem? hb)
    exact h.set ⟨hm.1,turnT_good h hm.2⟩
  · exact h
theorem turnUp_good {I:InsS→Prop} (n:Nat):∀ (d:Nat) {bl:List BlockS},GoodL I bl→GoodL I (turnUp n d bl)
  | 0,_,h=>h
  | d+1,_,h=>by rw [turnUp];exact turnUp_good n d (turnAt_good h _)
theorem meltAt_good {I:InsS→Prop} {bl:List BlockS} (h:GoodL I bl) (i:Nat) (k:Int):GoodL I (meltAt bl i k):=by
  unfold meltAt
  split
  · rename_i b o hb ho
    have h1:=h b (List.mem_of_getElem? hb)
    have h2:=h o (List.mem_of_getElem? ho)
    refine GoodL.set (b:=⟨[],retT⟩) (GoodL.set (b:=⟨b.ins++o.ins,o.term⟩) h ⟨fun x hx=>?_,h2.2⟩) ⟨fun x hx=>absurd hx List.not_mem_nil,goodT_ret⟩
    rcases List.mem_append.1 hx with e|e
    · exact h1.1 x e
    · exact h2.1 x e
  · exact h
theorem meltGo_good {I:InsS→Prop} {i:Nat}:∀ (m:Nat) {bl:List BlockS} {r:SetS},GoodL I bl→GoodL I (meltGo i m bl r)
  | 0,_,_,h=>h
  | m+1,_,_,h=>by
    rw [meltGo]
    split
    · split
      · exact h
      · exact meltGo_good m (meltAt_good h _ _)
    · exact h
theorem meltI_good {I:InsS→Prop} {bl:List BlockS} (h:GoodL I bl) (i:Nat):GoodL I (meltI bl i):=by
  unfold meltI
  split
  · exact meltGo_good _ h
  · exact h
theorem meltUp_good {I:InsS→Prop} (n:Nat):∀ (d:Nat) {bl:List BlockS},GoodL I bl→GoodL I (meltUp n d bl)
  | 0,_,h=>h
  | d+1,_,h=>by rw [meltUp];exact meltUp_good n d (meltI_good h _)
theorem keptL_sub (r:SetS):∀ (bl:List BlockS) (i:Nat),(keptL r i bl).Sublist bl
  | [],_=>.slnil
  | b::bl,i=>by
    rw [keptL]
    split
    · exact .cons_cons _ (keptL_sub r bl (i+1))
    · exact .cons _ (keptL_sub r bl (i+1))
theorem placesS_fit (r:SetS):∀ (m i n:Nat),n+m≤1000000→∀ v∈placesS r m i n,fitI v
  | 0,_,_,_,_,hv=>by cases hv
  | m+1,i,n,hn,v,hv=>by
    rw [placesS] at hv
    rcases List.mem_cons.1 hv with e|e
    · rw [e];exact ⟨by omega,by omega⟩
    · refine placesS_fit r m (i+1) _ ?_ v e
      split<;>omega
theorem getD_fit {pl:List Int} (h:∀ v∈pl,fitI v) (i:Nat):fitI (pl[i]?.getD 0):=by
  cases hi:pl[i]? with
  | none=>exact fit_zero
  | some v=>exact h v (List.mem_of_getElem? hi)
theorem placeT_good {pl:List Int} (h:∀ v∈pl,fitI v) {t:TermS} (ht:GoodT t):GoodT (placeT pl t):=by
  unfold placeT
  split
  · exact ⟨ht.a,ht.b,getD_fit h _,ht.els,ht.op⟩
  · split
    · exact ⟨ht.a,ht.b,getD_fit h _,getD_fit h _,ht.op⟩
    · exact ht
theorem dropS_good {I:InsS→Prop} {bl:List BlockS} (h:GoodL I bl) (hn:bl.length≤1000000):GoodL I (dropS bl):=by
  intro b hb
  unfold dropS at hb
  obtain ⟨c,hc,rfl⟩:=List.mem_map.1 hb
  have hm:=h c ((keptL_sub _ _ _).subset hc)
  exact ⟨hm.1,placeT_good (placesS_fit _ _ _ _ (by omega)) hm.2⟩
theorem sizeS_set:∀ {bl:List BlockS} {i:Nat} {b:BlockS} (c:BlockS),bl[i]?=some b→sizeS (bl.set i c)+b.ins.length=sizeS bl+c.ins.length
  | x::bl,0,b,c,h=>by
    simp only [List.getElem?_cons_zero,Option.some.injEq] at h
    subst h
    simp only [sizeS,List.set_cons_zero,List.map_cons,List.sum_cons]
    omega
  | x::bl,i+1,b,c,h=>by
    have:=sizeS_set (bl:=bl) (i:=i) (b:=b) c (by simpa using h)
    simp only [sizeS,List.set_cons_succ,List.map_cons,List.sum_cons] at this ⊢
    omega
  | [],_,_,_,h=>by simp at h
theorem turnAt_size (bl:List BlockS) (i:Nat):sizeS (turnAt bl i)=sizeS bl:=by
  unfold turnAt
  split
  · rename_i b hb
    have:=sizeS_set { b with term:=turnT bl b.term } hb
    simp only at this
    omega
  · rfl
theorem turnUp_size (n:Nat):∀ (d:Nat) (bl:List BlockS),sizeS (turnUp n d bl)=sizeS bl
  | 0,_=>rfl
  | d+1,bl=>by rw [turnUp,turnUp_size n d,turnAt_size]
theorem meltAt_size (bl:List BlockS) (i:Nat) (k:Int):sizeS (meltAt bl i k)≤sizeS bl:=by
  unfold meltAt
  split
  · rename_i b o hb ho
    have h1:=sizeS_set (⟨b.ins++o.ins,o.term⟩:BlockS) hb
    have hbl:=(List.getElem?_eq_some_iff.1 hb).1
    simp only [List.length_append] at h1
    by_cases e:i=k.toNat
    · have h2:(bl.set i ⟨b.ins++o.ins,o.term⟩)[k.toNat]?=some ⟨b.ins++o.ins,o.term⟩:=by rw [← e,List.getElem?_set,if_pos rfl,if_pos hbl]
      have h3:=sizeS_set (⟨[],retT⟩:BlockS) h2
      simp only [List.length_append,List.length_nil] at h3
      rw [← e,hb] at ho
      injection ho with ho
      subst ho
      omega
    · have h2:(bl.set i ⟨b.ins++o.ins,o.term⟩)[k.toNat]?=some o:=by rw [List.getElem?_set,if_neg e];exact ho
      have h3:=sizeS_set (⟨[],retT⟩:BlockS) h2
      simp only [List.length_nil] at h3
      omega
  · exact Nat.le_refl _
theorem meltGo_size {i:Nat}:∀ (m:Nat) (bl:List BlockS) (r:SetS),sizeS (meltGo i m bl r)≤sizeS bl
  | 0,_,_=>Nat.le_refl _
  | m+1,bl,r=>by
    rw [meltGo]
    split
    · split
      · exact Nat.le_refl _
      · exact Nat.le_trans (meltGo_size m _ _) (meltAt_size _ _ _)
    · exact Nat.le_refl _
theorem meltI_size (bl:List BlockS) (i:Nat):sizeS (meltI bl i)≤sizeS bl:=by
  unfold meltI
  split
  · exact meltGo_size _ _ _
  · exact Nat.le_refl _
theorem meltUp_size (n:Nat):∀ (d:Nat) (bl:List BlockS),sizeS (meltUp n d bl)≤sizeS bl
  | 0,_=>Nat.le_refl _
  | d+1,bl=>by rw [meltUp];exact Nat.le_trans (meltUp_size n d _) (meltI_size _ _)
theorem sizeS_sub:∀ {a b:List BlockS},a.Sublist b→sizeS a≤sizeS b
  | _,_,.slnil=>Nat.le_refl _
  | _,_,.cons x h=>by
    have:=sizeS_sub h
    simp only [sizeS,List.map_cons,List.sum_cons] at this ⊢
    omega
  | _,_,.cons_cons x h=>by
    have:=sizeS_sub h
    simp only [sizeS,List.map_cons,List.sum_cons] at this ⊢
    omega
theorem dropS_size (bl:List BlockS):sizeS (dropS bl)≤sizeS bl:=by
  refine Nat.le_trans (Nat.le_of_eq ?_) (sizeS_sub (keptL_sub (reachedS bl) bl 0))
  unfold dropS sizeS
  rw [List.map_map]
  rfl
theorem waysS_size (bl:List BlockS):sizeS (waysS bl)≤sizeS bl:=by
  unfold waysS meltS turnS
  refine Nat.le_trans (dropS_size _) (Nat.le_trans (meltUp_size _ _ _) (Nat.le_of_eq (turnUp_size _ _ _)))
theorem nlines_eq (bl:List BlockS):nlines bl=sizeS bl+2 * bl.length:=by
  induction bl with
  | nil=>rfl
  | cons b l ih =>
    simp only [nlines,sizeS,List.map_cons,List.sum_cons,List.length_cons] at ih ⊢
    omega
theorem LessL.good {I:InsS→Prop} {bl bl':List BlockS} (h:LessL bl bl') (g:GoodL I bl):GoodL I bl':=by
  intro b' hb
  obtain ⟨b,hm,e,hs⟩:=h.mem hb
  obtain ⟨g1,g2⟩:=g b hm
  exact ⟨fun x hx=>g1 x (hs.subset hx),by rw [e];exact g2⟩
def ShowI (x:InsS):Prop:=x.ok∧x.args.length≤100000
structure ShowB (bl:List BlockS):Prop where
  good:GoodL ShowI bl
  len:bl.length≤100000
  size:sizeS bl≤1000000
theorem ShowB.less {bl bl':List BlockS} (h:ShowB bl) (l:LessL bl bl'):ShowB bl':=⟨l.good h.good,by rw [l.1];exact h.len,Nat.le_trans l.size h.size⟩
theorem ShowB.ways {bl:List BlockS} (h:ShowB bl) (hpos:0 < bl.length) (ht:tgtOK bl):ShowB (waysS bl):=by
  obtain ⟨t1,t2,t3⟩:=turnS_ok ht
  have hm:=meltUp_ok (n:=bl.length) (q:=(turnS bl).length) (turnS bl).length (turnS bl) ⟨t1,t2,t3⟩
  refine ⟨?_,Nat.le_trans (waysS_ok hpos ht).le h.len,Nat.le_trans (waysS_size bl) h.size⟩
  unfold waysS
  refine dropS_good (meltUp_good _ _ (turnUp_good _ _ h.good)) ?_
  have:(meltS (turnS bl)).length=bl.length:=hm.len
  rw [this]
  have:=h.len
  omega
theorem ShowB.ok {f:FuncS} (h:ShowB f.blocks) (hp:fitI f.params) (hn:f.name.data.size≤140737488351232):ShowOK f:=by
  refine ⟨hp,hn,by rw [nlines_eq];have:=h.len;have:=h.size;omega,fun b hb x hx=>(h.good b hb).1 x hx,fun b hb=>(h.good b hb).2,h.len⟩
end Go.Proofs.YtjhloakacicdiaaDoor
namespace Go.Proofs.YtjhloakacicdiaaDoor
open Go.AH
attribute [local irreducible] W RS
theorem light_show {p:ProgS} (hok:p.ok) (hl:lightP p=true) (hr:rightP p=true) {f:FuncS} (hf:f∈p.funcs):ShowB f.blocks:=by
  obtain ⟨ho,hc⟩:=light_right hok hl hr f hf
  have hfo:=hok.funcs f hf
  have hrf:∀ b∈f.blocks,b.term.kind=2→0≤b.term.op∧b.term.op < 31:=by
    intro b hb hk
    unfold rightP at hr
    simp only [Bool.and_eq_true,decide_eq_true_eq] at hr
    have h1:=List.all_eq_true.1 hr.2 f hf
    unfold funcOK at h1
    simp only [Bool.and_eq_true,decide_eq_true_eq] at h1
    have h2:=List.all_eq_true.1 h1.2 b hb
    unfold blockOK endsS at h2
    simp only [Bool.and_eq_true,decide_eq_true_eq,Bool.or_eq_true,Bool.not_eq_true',beq_eq_false_iff_ne,ne_eq] at h2
    rcases h2.2.1.2 with h3|h3
    · exact absurd hk h3
    · omega
  unfold lightP at hl
  simp only [Bool.and_eq_true,decide_eq_true_eq] at hl
  obtain ⟨m,hm⟩:=Option.isSome_iff_exists.1 hl.2
  obtain ⟨_,_,_,_,l6⟩:=lightF_le hm f hf
  refine ⟨fun b hb=>⟨fun x hx=>⟨(hfo.blocks b hb).ins x hx,by have:=l6 b hb x hx;omega⟩,?_⟩,ho.len,ho.size⟩
  have ht:=(hfo.blocks b hb).term
  exact ⟨ht.a,ht.b,ht.goto,ht.els,hrf b hb⟩
end Go.Proofs.YtjhloakacicdiaaDoor
namespace Go.Proofs.YtjhloakacicdiaaDoor
open Go.AH
attribute [local irreducible] W RS
def CodeR (f f':FuncS):Prop:=∃ bm,CodeS f.regs f.blocks bm∧f'={ f with blocks:=bm }
def WaysR (f f':FuncS):Prop:=f'={ f with blocks:=waysS f.blocks }
theorem code_turn:TurnEX 14 (fun f=>OkL f.regs f.blocks) CodeR:=by
  intro B N bb bv f A1 c1 A2 c2 sec hok hsec hN hbb hm hod hsl hr1 hr2
  obtain ⟨nm,pa,se,rg,sl,bl⟩:=f
  have hsl:sL bv=bl:=hsl
  subst hsl
  have hown:=hod.own hN (Nat.le_trans hN hbb) hm
  refine (code_ex B bb bv ⟨nm,pa,se,rg,sl,sL bv⟩ A1 c1 A2 c2 (capOf 9) hown hok).mono ?_
  rintro v h' s ⟨bv',rfl,hown',hcode,hoff,hnew,hsub⟩
  have keep:∀ {e:TypeId},e≠50→∀ i b,B.m i=some b→b.elem=e→h'.m i=some b:=by
    intro e he i b hb hbe
    rw [hoff.2 i (s.dom _ _ hb) (ne_of_elem hb hm (by rw [hbe];exact he))]
    exact hb
  have row:∀ {α:Type} {e:TypeId} {A:Option Addr} {l:List α} {enc:α→Value},e≠50→e≠37→e≠25→RowE B N e A l enc→RowE (cutE h') N e A l enc:=by
    intro α e A l enc h1 h2 h3 hr
    exact hr.up fun i b hb hbe=>cutE_in (keep h1 i b hb hbe) (by rw [hbe];exact h2) (by rw [hbe];exact h3)
  exact ⟨_,_,rfl,⟨A1,c1,A2,c2,some ⟨bb,0,none⟩,capOf 9,sec,rfl,hsec,(row (by decide) (by decide) (by decide) hr1).sl fun _=>rfl,(row (by decide) (by decide) (by decide) hr2).sl fun _=>rfl,hown'.cut.sl⟩,⟨_,hcode,rfl⟩,hoff.mono fun i _ e=>by rw [e];exact hbb⟩
theorem ways_turn:TurnEX 24 (fun f=>OkL f.regs f.blocks) WaysR:=by
  intro B N bb bv f A1 c1 A2 c2 sec hok hsec hN hbb hm hod hsl hr1 hr2
  have hown:=hod.own hN (Nat.le_trans hN hbb) hm
  have hbl:bv.length=f.blocks.length:=by rw [← hsl,sL_length]
  refine (ways_ex B bb bv f A1 c1 A2 c2 (capOf 9) hsl.symm (by rw [hbl];exact hok.pos) (by rw [hbl];exact hok.len) hown (by rw [hsl];exact hok.tgt) (by rw [← sizeS_eq,hsl];exact hok.size)).mono ?_
  rintro v h' s ⟨lb,kv,rfl,hown',hkv,hoff,hft⟩
  have keep:∀ {e:TypeId},e≠50→e≠58→∀ i b,B.m i=some b→b.elem=e→h'.m i=some b:=by
    intro e he he2 i b hb hbe
    rw [hoff.2 i (s.dom _ _ hb) fun ef=>?_]
    · exact hb
    · rcases ef with ef|⟨x,hx,hxn,hxr⟩
      · exact ne_of_elem hb hm (by rw [hbe];exact he) ef
      · exact ne_of_elem hb (hod.row x hx hxn).2 (by rw [hbe];exact he2) hxr.symm
  have row:∀ {α:Type} {e:TypeId} {A:Option Addr} {l:List α} {enc:α→Value},e≠50→e≠58→e≠37→e≠25→RowE B N e A l enc→RowE (cutE h') N e A l enc:=by
    intro α e A l enc h1 h0 h2 h3 hr
    exact hr.up fun i b hb hbe=>cutE_in (keep h1 h0 i b hb hbe) (by rw [hbe];exact h2) (by rw [hbe];exact h3)
  have hsl3:SlAt (cutE h') (some ⟨lb,0,none⟩) 9 (waysS f.blocks) (blockR (cutE h')):=by
    have:=hown'.cut.sl
    rw [hkv,hsl] at this
    exact this
  rw [hsl]
  exact ⟨_,_,rfl,⟨A1,c1,A2,c2,some ⟨lb,0,none⟩,capOf 9,sec,rfl,hsec,(row (by decide) (by decide) (by decide) (by decide) hr1).sl fun _=>rfl,(row (by decide) (by decide) (by decide) (by decide) hr2).sl fun _=>rfl,hsl3⟩,rfl,hoff.mono fun i _ e=>by
    rcases e with e|⟨x,hx,hxn,hxr⟩
    · rw [e];exact hbb
    · rw [← hxr];exact (hod.row x hx hxn).1⟩
theorem CopyOK.less {f:FuncS} {bl:List BlockS} (h:CopyOK f) (l:LessL f.blocks bl):CopyOK { f with blocks:=bl }:=by
  refine ⟨by show 0 < bl.length;rw [l.1];exact h.pos,h.sec,h.slots,by show bl.length≤_;rw [l.1];exact h.len,fun b hb=>?_,fun b hb x hx=>?_⟩
  · obtain ⟨c,hc,_,hs⟩:=l.mem hb
    exact Nat.le_trans hs.length_le (h.ins c hc)
  · obtain ⟨c,hc,_,hs⟩:=l.mem hb
    exact h.args c hc x (hs.subset hx)
theorem takeV_get {off n j:Nat} {cs vs:List Value} (h:takeV off n cs=vs) (hj:j < n):cs[off+j]?=vs[j]?:=by
  rw [← h,takeV_eq,List.getElem?_take_of_lt hj,List.getElem?_drop]
theorem goodT_fit {t:TermS} (h:GoodT t):∀ a∈treadsS t,fitI a.reg:=by
  intro a ha
  unfold treadsS at ha
  split at ha
  · rcases List.mem_cons.1 ha with e|ha
    · rw [e];exact h.a.1
    · rw [List.mem_singleton.1 ha];exact h.b.1
  · split at ha
    · rw [List.mem_singleton.1 ha];exact h.a.1
    · cases ha
theorem ShowB.okL {regs:Int} {bl:List BlockS} (h:ShowB bl) (hpos:0 < bl.length) (ht:tgtOK bl) (r0:0≤regs) (r1:regs≤1000000):OkL regs bl :=
  ⟨hpos,h.len,r0,r1,ht,h.size,fun b hb x hx=>⟨Nat.le_trans ((h.good b hb).1 x hx).2 (by omega),((h.good b hb).1 x hx).1.dst,reads_fit ((h.good b hb).1 x hx).1⟩,fun b hb=>goodT_fit (h.good b hb).2⟩
theorem ShowB.copy {f:FuncS} {bl:List BlockS} (h:ShowB bl) (hpos:0 < bl.length) (hc:CopyOK f):CopyOK { f with blocks:=bl } :=
  ⟨hpos,hc.sec,hc.slots,h.len,fun b hb=>Nat.le_trans (sizeS_le hb) h.size,fun b hb x hx=>Nat.le_trans ((h.good b hb).1 x hx).2 (by omega)⟩
structure LF (f:FuncS):Prop where
  ok:OkL f.regs f.blocks
  cp:CopyOK f
  sh:ShowB f.blocks
  par:fitI f.params
  nm:f.name.data.size≤140737488351232
theorem LF.code {f f':FuncS} (h:LF f) (r:CodeR f f'):LF f':=by
  obtain ⟨bm,hc,rfl⟩:=r
  exact ⟨h.ok.less hc.less,h.cp.less hc.less,h.sh.less hc.less,h.par,h.nm⟩
theorem LF.ways {f f':FuncS} (h:LF f) (r:WaysR f f'):LF f':=by
  have e:f'={ f with blocks:=waysS f.blocks }:=r
  subst e
  have hw:=waysS_ok h.ok.pos h.ok.tgt
  have hs:=h.sh.ways h.ok.pos h.ok.tgt
  exact ⟨hs.okL hw.pos hw.tgt h.ok.r0 h.ok.r1,hs.copy hw.pos h.cp,hs,h.par,h.nm⟩
theorem LF.show {f:FuncS} (h:LF f):ShowOK f:=h.sh.ok h.par h.nm
theorem rel_all {R:FuncS→FuncS→Prop} {Q:FuncS→Prop} {l l1:List FuncS} (hl:l1.length=l.length) (hR:∀ (i:Nat) (f f':FuncS),l[i]?=some f→l1[i]?=some f'→R f f') (hq:∀ f∈l,Q f) (hs:∀ f f',Q f→R f f'→Q f'):∀ f∈l1,Q f:=by
  intro f' hf'
  obtain ⟨i,hi⟩:=List.mem_iff_getElem?.1 hf'
  have hlt:=(List.getElem?_eq_some_iff.1 hi).1
  obtain ⟨f,hf⟩:∃ f,l[i]?=some f:=⟨_,List.getElem?_eq_getElem (by omega)⟩
  exact hs f f' (hq f (List.mem_of_getElem? hf)) (hR i f f' hf hi)
theorem funcs_again {l l1 l2:List FuncS} (h1:l1.length=l.length) (h2:l2.length=l1.length) (r1:∀ (i:Nat) (f f':FuncS),l[i]?=some f→l1[i]?=some f'→CodeR f f') (r2:∀ (i:Nat) (f f':FuncS),l1[i]?=some f→l2[i]?=some f'→CodeR f f'):l2=l1:=by
  refine List.ext_getElem? fun i=>?_
  by_cases hi:i < l1.length
  · obtain ⟨f,hf⟩:∃ f,l[i]?=some f:=⟨_,List.getElem?_eq_getElem (by omega)⟩
    obtain ⟨f1,hf1⟩:∃ f,l1[i]?=some f:=⟨_,List.getElem?_eq_getElem hi⟩
    obtain ⟨f2,hf2⟩:∃ f,l2[i]?=some f:=⟨_,List.getElem?_eq_getElem (by omega)⟩
    rw [hf1,hf2]
    obtain ⟨b1,c1,rfl⟩:=r1 i f f1 hf hf1
    obtain ⟨b2,c2,rfl⟩:=r2 i _ f2 hf1 hf2
    have e:b2=b1:=CodeS.again c1 c2
    subst e;rfl
  · rw [List.getElem?_eq_none (by omega),List.getElem?_eq_none (by omega)]
theorem RS.eqlSame {P:Program} {ops:Array Oper} {draw:Bool} {rs:List Rk} {l:List Oper} {fl:List (Nat × Value)} {nt:Nat} {K:Fr→SH→Prop} {d:Tmp} {ty:TypeId} {pos:String} {af:Array Edge} {gd:Option (Nat × Bool)} {h:SH} {t yt:TypeId} {x y:Operand} {a b:ByteArray} (hw:wantB ops ⟨some d,.binOp .eql t x y yt,ty,pos,af,gd⟩ ⟨fl,nt⟩=some true) (hd:Nat.blt d nt=true)
    (hx:Fr.ev ⟨fl,nt⟩ x=some (.string a)) (hy:Fr.ev ⟨fl,nt⟩ y=some (.string b)) (he:a=b)
    (hk:RS P ops draw (recP h.k false [] (some [])::rs) l ⟨(d,.bool true)::fl,nt⟩ h K):RS P ops draw rs (⟨some d,.binOp .eql t x y yt,ty,pos,af,gd⟩::l) ⟨fl,nt⟩ h K:=by
  refine RS.binStr hw hd hx hy (v:=.bool true) ?_ hk
  subst he
  simp [binS]
set_option maxRecDepth 100000 in
set_option maxHeartbeats 0 in
theorem DeadAgain_tf (h:Hp) (hg:GT h) (hnt:NT h) (p:ProgS) (hok:p.ok) (hnm:∀ f∈p.funcs,f.name.data.size≤140737488351232) (P1:Option Addr) (d1:Nat) (P2:Option Addr) (d2:Nat) (hfs:SlAt h P1 6 p.funcs (funcRS h)) (hgs:SlAt h P2 4 p.globals (globR h)) :
    TF Tryd.prog 4 ⟨[.agg ⟨progC p P1 d1 P2 d2⟩]⟩ h (.bool true) h:=by
  refine TF.exact (fn:=Tryd.f4) (c:=(Tryd.f4.body.getD .skip)) Tryd.func4 (by kernel_rfl) Tryd.ntmps4 (by kernel_rfl) (fun s0=>⟨Nat.le_refl _,by simp,fun i b hb=>⟨s0.dom i b hb,s0.bd i b hb⟩⟩) fun π s0=>?_
  conv=>arg 2;whnf
  ((with_reducible apply W.seq);repeat (first|((with_reducible first|apply RS.assign|apply RS.box);iterate 3 exact rfl)|((with_reducible apply RS.nil);exact mixed;kernel_rfl)|((with_reducible apply W.reg);kernel_rfl)|(with_reducible apply thenK_n)))
  refine W.absorbX fun B0 π0 a0=>?_
  have m0:B0.m (π 0)=some ⟨⟨progC p P1 d1 P2 d2⟩,25⟩:=a0.loc 0 (by decide:(0:Nat) < 1)
  generalize π 0=pb at *
  have n0:=a0.dom _ _ m0
  replace hfs:=hfs.mono a0.up fun _ _ h=>funcRS_mono a0.up h
  replace hgs:=hgs.mono a0.up fun _ _ h=>globR_mono a0.up h
  obtain ⟨sb,hsb⟩:∃ sb,(lightP p && rightP p && shortN 0 0 && shortN 0 0)=sb:=⟨_,rfl⟩
  have hsm:∀ B',(∀ i b,B0.m i=some b→B'.m i=some b)→TF Tryd.prog 9 ⟨[.agg ⟨progC p P1 d1 P2 d2⟩,.agg ⟨[.slice none 0 0,.slice none 0 0]⟩,.agg ⟨[.slice none 0 0,.slice none 0 0]⟩]⟩ B' (.bool sb) B':=by
    intro B' hu
    rw [← hsb]
    exact small_tf p hok B' P1 d1 P2 d2 (hfs.mono hu fun _ _ h=>funcR_mono hu h.r) (hgs.mono hu fun _ _ h=>globR_mono hu h) none 0 0 none 0 0 none 0 0 none 0 0
  cases sb with
  | false =>
    repeat (first|((with_reducible apply (RS.callA (g0:=8)));(iterate 3 exact rfl);exact fun B' hB'=>fit14_tf B')|((with_reducible apply RS.loadNB);(iterate 3 exact rfl);exact m0;exact n0;exact Nat.le_of_ble_eq_true rfl;exact (show takeV 0 4 (progC p P1 d1 P2 d2)=progC p P1 d1 P2 d2 from rfl))|((with_reducible apply (RS.callA (g0:=9)));(iterate 3 exact rfl);exact fun B' hB'=>hsm B' (fun i b hb=>hB'.up i b hb))|((with_reducible first|apply RS.assign|apply RS.not);iterate 3 exact rfl)|((with_reducible apply RS.build);iterate 4 exact rfl)|((with_reducible apply RS.nil);exact mixed;kernel_rfl)|(with_reducible first|apply W.seq|apply W.ret|apply W.skip|apply thenK_n|apply thenK_r)|((with_reducible apply W.reg);kernel_rfl)|((with_reducible apply W.condT);kernel_rfl;exact rfl)|((with_reducible apply W.condF);kernel_rfl;exact rfl))
    exact endsK_ret _ (.cons (.tmp rfl) .nil) fun B' a=>⟨rfl,fun j x hj=>a.up _ _ (a0.up _ _ hj)⟩
  | true =>
    have hlr:lightP p=true∧rightP p=true:=by
      simp only [Bool.and_eq_true] at hsb
      exact hsb.1.1
    have hLF:=light_right hok hlr.1 hlr.2
    have hnf20:p.funcs.length≤20:=by
      have:=hlr.1
      unfold lightP at this
      simp only [Bool.and_eq_true,decide_eq_true_eq] at this
      exact this.1.1.1.1.1
    have hnf:p.funcs.length≤100000:=by omega
    have hF:∀ f∈p.funcs,LF f:=fun f hf=>⟨(hLF f hf).1,(hLF f hf).2,light_show hok hlr.1 hlr.2 hf,(hok.funcs f hf).params,hnm f hf⟩
    have hK:∀ f∈p.funcs,OkL f.regs f.blocks∧CopyOK f:=fun f hf=>⟨(hF f hf).ok,(hF f hf).cp⟩
    ((with_reducible apply W.seq);repeat (fail))
    ((with_reducible apply W.seq);repeat (first|((with_reducible apply (RS.callA (g0:=8)));(iterate 3 exact rfl);exact fun B' hB'=>fit14_tf B')|((with_reducible apply RS.not);iterate 3 exact rfl)|((with_reducible apply RS.nil);exact mixed;kernel_rfl)|((with_reducible apply W.reg);kernel_rfl)|(with_reducible first|apply W.skip|apply thenK_n)|((with_reducible apply W.condF);kernel_rfl;exact rfl)))
    ((with_reducible apply W.seq);repeat (fail))
    ((with_reducible apply W.seq);repeat (first|((with_reducible apply RS.loadNB);(iterate 3 exact rfl);exact m0;exact n0;exact Nat.le_of_ble_eq_true rfl;exact (show takeV 0 4 (progC p P1 d1 P2 d2)=progC p P1 d1 P2 d2 from rfl))|((with_reducible apply (RS.callA (g0:=9)));(iterate 3 exact rfl);exact fun B' hB'=>hsm B' (fun i b hb=>hB'.up i b hb))|((with_reducible apply RS.not);iterate 3 exact rfl)|((with_reducible apply RS.build);iterate 4 exact rfl)|((with_reducible apply RS.nil);exact mixed;kernel_rfl)|((with_reducible apply W.reg);kernel_rfl)|(with_reducible first|apply W.skip|apply thenK_n)|((with_reducible apply W.condF);kernel_rfl;exact rfl)))
    ((with_reducible apply W.seq);repeat (first|((with_reducible apply (RS.callEx (g0:=23)));(iterate 3 exact rfl);intro B1 hB1;refine ⟨_,each_ex 14 (fun f=>OkL f.regs f.blocks) CodeR code_turn p hK hnf B1 pb _ _ _ _ _ (hB1.up _ _ m0) (hfs.mono hB1.up fun _ _ h=>funcRS_mono hB1.up h),?_⟩;rintro v H1 π1 ⟨ob1,A1,c1,fs1,rfl,hO1,hS1,hl1,hR1,ho1,hlo1⟩ sH1 hle1)|((with_reducible apply RS.assign);iterate 3 exact rfl)|((with_reducible apply RS.nil);exact mixed;kernel_rfl)|((with_reducible apply W.reg);kernel_rfl)|(with_reducible apply thenK_n)))
    have old1:Old B0 H1:=hB1.oldH.trans ho1
    have hF1:∀ f∈fs1,LF f:=rel_all hl1 hR1 hF fun f f'=>LF.code
    have hK1:∀ f∈fs1,OkL f.regs f.blocks∧CopyOK f:=fun f hf=>⟨(hF1 f hf).ok,(hF1 f hf).cp⟩
    have hnf1:fs1.length≤100000:=by omega
    ((with_reducible apply W.seq);repeat (first|((with_reducible apply (RS.callEx (g0:=23)));(iterate 3 exact rfl);intro B2 hB2;refine ⟨_,each_ex 14 (fun f=>OkL f.regs f.blocks) CodeR code_turn { p with funcs:=fs1 } hK1 hnf1 B2 ob1 _ _ _ _ _ (hB2.up _ _ hO1) (hS1.mono hB2.up fun _ _ h=>funcRS_mono hB2.up h),?_⟩;rintro v H2 π2 ⟨ob2,A2,c2,fs2,rfl,hO2,hS2,hl2,hR2,ho2,hlo2⟩ sH2 hle2)|((with_reducible first|apply RS.move|apply RS.assign);iterate 3 exact rfl)|((with_reducible apply RS.nil);exact mixed;kernel_rfl)|((with_reducible apply W.reg);kernel_rfl)|(with_reducible apply thenK_n)))
    have oH2:Old H1 H2:=hB2.oldH.trans ho2
    have old2:Old B0 H2:=old1.trans oH2
    have hup2:=old2.up a0.dom
    have m2:=hup2 _ _ m0
    replace hfs:=hfs.mono hup2 fun _ _ h=>funcRS_mono hup2 h
    ((with_reducible apply W.seq);repeat (first|((with_reducible apply (RS.callEx (g0:=23)));(iterate 3 exact rfl);intro B3 hB3;refine ⟨_,each_ex 24 (fun f=>OkL f.regs f.blocks) WaysR ways_turn p hK hnf B3 pb _ _ _ _ _ (hB3.up _ _ m2) (hfs.mono hB3.up fun _ _ h=>funcRS_mono hB3.up h),?_⟩;rintro v H3 π3 ⟨ob3,A3,c3,fs3,rfl,hO3,hS3,hl3,hR3,ho3,hlo3⟩ sH3 hle3)|((with_reducible apply RS.assign);iterate 3 exact rfl)|((with_reducible apply RS.nil);exact mixed;kernel_rfl)|((with_reducible apply W.reg);kernel_rfl)|(with_reducible apply thenK_n)))
    have oH3:Old H2 H3:=hB3.oldH.trans ho3
    have hF3:∀ f∈fs3,LF f:=rel_all hl3 hR3 hF fun f f'=>LF.ways
    have hK3:∀ f∈fs3,OkL f.regs f.blocks∧CopyOK f:=fun f hf=>⟨(hF3 f hf).ok,(hF3 f hf).cp⟩
    have hnf3:fs3.length≤100000:=by omega
    repeat (first|((with_reducible apply (RS.callEx (g0:=23)));(iterate 3 exact rfl);intro B4 hB4;refine ⟨_,each_ex 24 (fun f=>OkL f.regs f.blocks) WaysR ways_turn { p with funcs:=fs3 } hK3 hnf3 B4 ob3 _ _ _ _ _ (hB4.up _ _ hO3) (hS3.mono hB4.up fun _ _ h=>funcRS_mono hB4.up h),?_⟩;rintro v H4 π4 ⟨ob4,A4,c4,fs4,rfl,hO4,hS4,hl4,hR4,ho4,hlo4⟩ sH4 hle4;have hO4n:=sH4.dom _ _ hO4)|((with_reducible apply RS.load1B);(iterate 3 exact rfl);exact hO4;exact hO4n;exact rfl)|((with_reducible first|apply RS.nilCheck|apply RS.move|apply RS.lenSl|apply RS.fieldAddr);iterate 3 exact rfl)|((with_reducible apply RS.nil);exact mixed;kernel_rfl)|(with_reducible first|apply W.seq|apply W.block|apply thenK_n)|((with_reducible apply W.reg);kernel_rfl))
    have hl4':fs4.length=fs3.length:=hl4
    have oH4:Old H3 H4:=hB4.oldH.trans ho4
    have u24:=(oH3.trans oH4).up sH2.dom
    have u34:=oH4.up sH3.dom
    have u14:=(oH2.trans (oH3.trans oH4)).up sH1.dom
    have old4:Old B0 H4:=old2.trans (oH3.trans oH4)
    have hO1':=u14 _ _ hO1
    have hO2':=u24 _ _ hO2
    have hO3':=u34 _ _ hO3
    replace hS1:=hS1.mono u14 fun _ _ h=>funcRS_mono u14 h
    replace hS2:=hS2.mono u24 fun _ _ h=>funcRS_mono u24 h
    replace hS3:=hS3.mono u34 fun _ _ h=>funcRS_mono u34 h
    have hg4:=(hg.up a0.up).up (old4.up a0.dom)
    have hnt4:=(hnt.up a0.up).up (old4.up a0.dom)
    have eAg:fs2=fs1:=funcs_again hl1 hl2 hR1 hR2
    have hSh1:∀ f∈fs1,ShowOK f:=fun f hf=>(hF1 f hf).show
    have hSh2:∀ f∈fs2,ShowOK f:=by rw [eAg];exact hSh1
    have hz1:fs1.length≤10000:=by omega
    have hz2:fs2.length≤10000:=by rw [eAg];exact hz1
    refine W.loopN (X:=Nat) (fun i=>[(3,.pointer (some ⟨ob1,0,none⟩)),(4,.pointer (some ⟨ob2,0,none⟩)),(5,.pointer (some ⟨ob3,0,none⟩)),(23,.slice A4 fs4.length c4),(24,.int .i64 (fs4.length:Int)),(25,.int .i64 (i:Int))]) (fun i B=>i≤fs4.length∧Old H4 B) (fun i=>fs4.length - i)
      (fun B' a=>⟨0,?_,⟨Nat.zero_le _,a.oldH⟩⟩) ?_
    · (repeat' (first|exact trivial|exact rfl|apply And.intro));done
    rintro i B π5 sB ⟨hi,old⟩
    have hup:=old.up sH4.dom
    by_cases hlt:i < fs4.length
    · obtain ⟨f4,hf4⟩:∃ f,fs4[i]?=some f:=⟨_,List.getElem?_eq_getElem hlt⟩
      obtain ⟨f3,hf3⟩:∃ f,fs3[i]?=some f:=⟨_,List.getElem?_eq_getElem (by omega)⟩
      have hlt3:i < fs3.length:=by omega
      have hW:WaysR f3 f4:=hR4 i f3 f4 hf3 hf4
      have hle:f4.blocks.length≤f3.blocks.length:=by
        have e:f4={ f3 with blocks:=waysS f3.blocks }:=hW
        have hk:=(hF3 f3 (List.mem_of_getElem? hf3)).ok
        rw [e]
        exact (waysS_ok hk.pos hk.tgt).le
      obtain ⟨gb,go,gcs,ge,rfl,hG0,hGl,B1',e1,B2',e2,B3',e3,sec,hGv,_⟩:=hS4.get i f4 hf4
      obtain ⟨kb,ko,kcs,ke,hA,hQ0,hQl,Q1,j1,Q2,j2,Q3,j3,qsec,hQv,_⟩:=hS3.get i f3 hf3
      subst hA
      have hG:=hup _ _ hG0
      have hGn:=sB.dom _ _ hG
      ((with_reducible apply W.seq);repeat (first|((with_reducible apply RS.cmpT);(iterate 4 exact rfl);(simp only [cmpP];omega))|((with_reducible apply RS.nil);exact mixed;kernel_rfl)|((with_reducible apply W.reg);kernel_rfl)|(with_reducible apply thenK_n)))
      ((with_reducible apply W.seq);repeat (first|(with_reducible first|apply W.skip|apply thenK_n)|((with_reducible apply W.condT);kernel_rfl;exact rfl)))
      ((with_reducible apply W.seq);repeat (first|(with_reducible apply W.block)))
      ((with_reducible apply W.seq);((with_reducible apply W.reg);kernel_rfl);repeat (first|((with_reducible apply RS.indexAddrS);(iterate 5 exact rfl);omega)|((with_reducible apply RS.loadNB);(iterate 3 exact rfl);exact hG;exact hGn;exact hGl;exact hGv)|((with_reducible first|apply RS.move|apply RS.assign);iterate 3 exact rfl)|((with_reducible apply RS.store);(iterate 5 exact rfl);exact Nat.le_of_ble_eq_true rfl;iterate 3 exact rfl)|((with_reducible apply RS.alloc);iterate 2 exact rfl)|((with_reducible apply RS.nil);exact mixed;kernel_rfl)));(with_reducible apply thenK_n)
      refine W.absorbX fun C π6 a6=>?_
      have hq:C.m (π5 0)=some ⟨⟨funcC f4 B1' e1 B2' e2 B3' e3⟩,37⟩:=a6.loc 0 (by decide:(0:Nat) < 1)
      generalize π5 0=q at *
      have hqn:=a6.dom _ _ hq
      have hO5:=a6.up _ _ (hup _ _ hO3')
      have hO5n:=a6.dom _ _ hO5
      have hQ5:=a6.up _ _ (hup _ _ hQ0)
      have hQ5n:=a6.dom _ _ hQ5
      have hQg:kcs[ko+i * 6+5]?=some (.slice Q3 f3.blocks.length j3):=takeV_get hQv (by decide:5 < 6)
      repeat (first|((with_reducible apply RS.indexAddrS);(iterate 5 exact rfl);omega)|((with_reducible apply RS.load1B);(iterate 3 exact rfl);first|exact hq;exact hqn;exact rfl|exact hO5;exact hO5n;exact rfl|exact hQ5;exact hQ5n;exact hQg)|((with_reducible first|apply RS.nilCheck|apply RS.move|apply RS.lenSl|apply RS.fieldAddr);iterate 3 exact rfl)|((with_reducible apply RS.cmpF);(iterate 4 exact rfl);(simp only [cmpN];omega))|((with_reducible apply RS.add1);(iterate 4 exact rfl);omega)|((with_reducible apply RS.nil);exact mixed;kernel_rfl)|(with_reducible first|apply W.seq|apply W.skip|apply thenK_n|apply blockK_n)|((with_reducible apply W.reg);kernel_rfl)|((with_reducible apply W.condF);kernel_rfl;exact rfl))
      refine roundN_n rfl fun B' a=>⟨i+1,?_,⟨by omega,(old.trans a6.oldH).trans a.oldH⟩,by omega⟩
      (repeat' (first|exact trivial|exact rfl|apply And.intro));done
    · have hBO1:=hup _ _ hO1'
      have hBO2:=hup _ _ hO2'
      have hBO1n:=sB.dom _ _ hBO1
      have hBO2n:=sB.dom _ _ hBO2
      have hBS1:=hS1.mono hup fun _ _ h=>funcRS_mono hup h
      have hBS2:=hS2.mono hup fun _ _ h=>funcRS_mono hup h
      have hgB:=hg4.up hup
      have hntB:=hnt4.up hup
      repeat (first|((with_reducible apply RS.moveX);(iterate 3 exact rfl);(first|exact (show bnd B.n (.pointer (some ⟨ob1,0,none⟩)) by simpa using hBO1n)|exact (show bnd B.n (.pointer (some ⟨ob2,0,none⟩)) by simpa using hBO2n)))|((with_reducible apply RS.nilCheckX);(iterate 3 exact rfl);first|exact hBO1n|exact hBO2n)|((with_reducible apply RS.loadNF);(iterate 3 exact rfl);first|exact hBO1;exact hBO1n;exact Nat.le_of_ble_eq_true rfl;exact (show takeV 0 4 (progC { p with funcs:=fs1 } A1 c1 P2 d2)=progC { p with funcs:=fs1 } A1 c1 P2 d2 from rfl);exact fun v hv=>sB.bd _ _ hBO1 v (by simpa using hv)|exact hBO2;exact hBO2n;exact Nat.le_of_ble_eq_true rfl;exact (show takeV 0 4 (progC { p with funcs:=fs2 } A2 c2 P2 d2)=progC { p with funcs:=fs2 } A2 c2 P2 d2 from rfl);exact fun v hv=>sB.bd _ _ hBO2 v (by simpa using hv))|((with_reducible apply (RS.callY (g0:=25)));(iterate 4 exact rfl);first|intro B6 he6 hB6;refine ⟨_,TF.ex (progT_tf { p with funcs:=fs1 } hz1 hSh1 A1 c1 P2 d2 B6 (hgB.up hB6.up) (hntB.up hB6.up) (hBS1.mono hB6.up fun _ _ h=>funcRS_mono hB6.up h)),(fun v H' ⟨_,e⟩ i hi=>by rw [e]),?_⟩;rintro v H6 k6 l6 ⟨rfl,rfl⟩ sH6 hle6 hden6 hwf6 hk6|intro B7 he7 hB7;refine ⟨_,TF.ex (progT_tf { p with funcs:=fs2 } hz2 hSh2 A2 c2 P2 d2 B7 (hgB.up hB7.up) (hntB.up hB7.up) (hBS2.mono hB7.up fun _ _ h=>funcRS_mono hB7.up h)),(fun v H' ⟨_,e⟩ i hi=>by rw [e]),?_⟩;rintro v H7 k7 l7 ⟨rfl,rfl⟩ sH7 hle7 hden7 hwf7 hk7)|((with_reducible apply RS.eqlSame);(iterate 4 exact rfl);(show progT fs1=progT fs2;rw [eAg]))|((with_reducible apply (RS.nilP mixed [(3,4),(2,4),(1,4),(0,4),(3,5),(2,5),(1,5),(0,5),(3,6),(2,6),(1,6),(0,6)]));kernel_rfl;(have q7:k6≤k7:=hk7);(repeat (refine ⟨fun x y hx hy=>(by obtain rfl:=Option.some.inj hx;obtain rfl:=Option.some.inj hy;exact pairR_calm rfl rfl rfl rfl rfl rfl rfl (by simp only [recY,recP];omega) (fun j hj=>by (first|(simp [recY,recP] at hj;done)|(simp [recY,recP] at hj ⊢;omega))) (by first|exact .inl rfl|exact .inr ⟨rfl,rfl⟩)),?_⟩));exact trivial;exact rfl)|((with_reducible apply RS.assign);iterate 3 exact rfl)|((with_reducible apply RS.cmpF);(iterate 4 exact rfl);(simp only [cmpN];omega))|((with_reducible apply RS.nil);exact mixed;kernel_rfl)|(with_reducible first|apply W.seq|apply W.exit|apply W.ret|apply thenK_n|apply thenK_e|apply roundN_e)|((with_reducible apply W.reg);kernel_rfl)|((with_reducible apply W.condF);kernel_rfl;exact rfl)|((with_reducible apply blockK_hit);exact rfl))
      exact endsK_ret _ (.cons (.tmp rfl) .nil) fun B' a=>⟨rfl,fun j x hj=>a.up _ _ ((old4.trans old).up a0.dom _ _ (a0.up _ _ hj))⟩
end Go.Proofs.YtjhloakacicdiaaDoor
namespace Go.Proofs.YtjhloakacicdiaaDoor
open Go.AH
variable {H:Type} {enc:TypeId × Value→H} {G:Nat} {g0:Nat→Option Blk} {W:World}
theorem RowΦ_list {T:Type} {R:Hp→List Value→T→Prop} {K:T→Prop} {w M:Nat} {h:Hp} {acs:List Value} (hr:RowΦ w M (fun h a=>∃ x,R h a x∧K x) h acs) :
    ∃ (A:Option Addr) (c:Nat) (l:List T),acs=[.slice A l.length c]∧SlAt h A w l (R h)∧(∀ x∈l,K x)∧l.length≤M∧l.length≤c∧c < capMark∧(A=none→c=0):=by
  obtain ⟨A,c,accs,e,r,h1,h2,h3,h4⟩:=hr
  have build:∀ al:List (List Value),(∀ a∈al,∃ x,R h a x∧K x)→∃ l:List T,l.length=al.length∧(∀ x∈l,K x)∧∀ (i:Nat) (x:T),l[i]?=some x→∃ a,al[i]?=some a∧R h a x:=by
    intro al
    induction al with
    | nil=>intro _;exact ⟨[],rfl,(fun x hx=>by cases hx),fun i x hx=>by simp at hx⟩
    | cons a al ih =>
      intro ha
      obtain ⟨x,hx,hk⟩:=ha a (by simp)
      obtain ⟨l,q1,q2,q3⟩:=ih fun b hb=>ha b (by simp [hb])
      refine ⟨x::l,by simp [q1],fun y hy=>?_,fun i y hy=>?_⟩
      · rcases List.mem_cons.1 hy with rfl|hy
        · exact hk
        · exact q2 y hy
      · cases i with
        | zero=>simp at hy;subst hy;exact ⟨a,rfl,hx⟩
        | succ i=>simpa using q3 i y (by simpa using hy)
  obtain ⟨l,q1,q2,q3⟩:=build accs fun a ha=>(r.all a ha).1
  refine ⟨A,c,l,by rw [q1];exact e,⟨fun i x hx=>?_⟩,q2,by omega,by omega,h3,h4⟩
  obtain ⟨a,ha,hR⟩:=q3 i x hx
  have ham:=List.mem_of_getElem? ha
  obtain ⟨b,e',hA,hb⟩:=r.at_ (fun hn=>by rw [hn] at ham;cases ham)
  have hwid:∀ x∈accs,x.length=w:=fun x hx=>(r.all x hx).2
  have hi:=(List.getElem?_eq_some_iff.1 ha).1
  refine ⟨b,0,accs.flatten,e',hA,hb,?_,?_⟩
  · rw [flat_len hwid]
    have:(i+1) * w≤accs.length * w:=Nat.mul_le_mul_right _ hi
    rw [Nat.succ_mul] at this;omega
  · have:takeV (0+i * w) w accs.flatten=a:=by
      rw [takeV_eq]
      apply List.ext_getElem?
      intro j
      rw [List.getElem?_take]
      by_cases hj:j < w
      · rw [if_pos hj,List.getElem?_drop,Nat.zero_add,flat_get hwid i j hj,ha];rfl
      · rw [if_neg hj,List.getElem?_eq_none (by rw [hwid a ham];omega)]
    rw [this];exact hR
theorem i64_fit {n:Int} (h1:IntKind.i64.min≤n) (h2:n≤IntKind.i64.max):fitI n:=by
  have e1:IntKind.i64.min=-9223372036854775808:=by decide
  have e2:IntKind.i64.max=9223372036854775807:=by decide
  rw [e1] at h1;rw [e2] at h2
  exact ⟨h1,h2⟩
def intΦ (_:Hp) (acs:List Value):Prop:=∃ n,acs=[.int .i64 n]∧fitI n
theorem D_int {t:TypeId} {cs:List Value} (ht:Tryd.prog.underlying t=some (.int .i64)) (h:TW enc Tryd.prog W t cs):D G g0 W cs 0 intΦ:=(D.int ht h).mono (Nat.le_refl _) fun _ _ _ ⟨n,e,h1,h2⟩=>⟨n,e,i64_fit h1 h2⟩
theorem up_int:UpΦ intΦ:=fun _ _ _ _ h=>h
def argΦ (_:Hp) (acs:List Value):Prop:=∃ a,argR acs a∧ArgS.ok a
theorem up_arg:UpΦ argΦ:=fun _ _ _ _ h=>h
theorem D_arg {cs:List Value} (h:TW enc Tryd.prog W 46 cs):D G g0 W cs 0 argΦ:=by
  obtain ⟨hl,hf⟩:=h.fields (l:=[(3,0,1),(2,1,1)]) (n:=2) (by kernel_rfl) (by kernel_rfl)
  have:=SegD.d (g0:=g0) (G:=G) (off:=0) (cs:=cs) (W:=W) (l:=[(1,0,intΦ),(1,0,intΦ)]) ⟨up_int,D_int (by kernel_rfl) (hf (3,0,1) (by simp)),up_int,D_int (by kernel_rfl) (hf (2,1,1) (by simp)),hl⟩
  refine D.mono this (by simp [segN]) ?_
  rintro H acs _ ⟨_,_,rfl,⟨a,rfl,ha⟩,_,_,rfl,⟨b,rfl,hb⟩,rfl⟩
  exact ⟨⟨a,b⟩,rfl,ha,hb⟩
def argsΦ:Hp→List Value→Prop:=RowΦ 2 reachBytes argΦ
def insΦ (h:Hp) (acs:List Value):Prop:=∃ x,insR h acs x∧InsS.ok x
theorem up_ins:UpΦ insΦ:=fun _ _ _ hm ⟨x,hx,hk⟩=>⟨x,insR_mono hm hx,hk⟩
def boolΦ (_:Hp) (acs:List Value):Prop:=∃ b,acs=[.bool b]
theorem up_bool:UpΦ boolΦ:=fun _ _ _ _ h=>h
def strΦ (_:Hp) (acs:List Value):Prop:=∃ s:ByteArray,acs=[.string s]∧s.size≤reachBytes
theorem up_str:UpΦ strΦ:=fun _ _ _ _ h=>h
theorem D_ins {cs:List Value} (h:TW enc Tryd.prog W 58 cs):D G g0 W cs 1 insΦ:=by
  obtain ⟨hl,hf⟩:=h.fields (l:=[(3,0,1),(3,1,1),(46,2,2),(46,4,2),(3,6,1),(4,7,1),(4,8,1),(3,9,1),(2,10,1),(54,11,1)]) (n:=12) (by kernel_rfl) (by kernel_rfl)
  have:=SegD.d (g0:=g0) (G:=G) (off:=0) (cs:=cs) (W:=W) (l:=[(1,0,intΦ),(1,0,intΦ),(2,0,argΦ),(2,0,argΦ),(1,0,intΦ),(1,0,boolΦ),(1,0,boolΦ),(1,0,intΦ),(1,0,intΦ),(1,reachBytes * 0+1,argsΦ)])
    ⟨up_int,D_int (by kernel_rfl) (hf (3,0,1) (by simp)),up_int,D_int (by kernel_rfl) (hf (3,1,1) (by simp)),up_arg,D_arg (hf (46,2,2) (by simp)),up_arg,D_arg (hf (46,4,2) (by simp)),up_int,D_int (by kernel_rfl) (hf (3,6,1) (by simp)),up_bool,D.bool (by kernel_rfl) (hf (4,7,1) (by simp)),up_bool,D.bool (by kernel_rfl) (hf (4,8,1) (by simp)),up_int,D_int (by kernel_rfl) (hf (3,9,1) (by simp)),up_int,D_int (by kernel_rfl) (hf (2,10,1) (by simp)),RowΦ.up up_arg,D.row (e:=46) up_arg (by kernel_rfl) (by kernel_rfl) (by decide) (Nat.le_of_ble_eq_true (by kernel_rfl)) (fun c hc=>D_arg hc) (hf (54,11,1) (by simp)),hl⟩
  refine D.mono this (by simp [segN]) ?_
  rintro H acs _ ⟨_,_,rfl,⟨op,rfl,h1⟩,_,_,rfl,⟨dst,rfl,h2⟩,_,_,rfl,⟨a,rfl,h3⟩,_,_,rfl,⟨b,rfl,h4⟩,_,_,rfl,⟨size,rfl,h5⟩,_,_,rfl,⟨sg,rfl⟩,_,_,rfl,⟨sc,rfl⟩,_,_,rfl,⟨ref,rfl,h6⟩,_,_,rfl,⟨off,rfl,h7⟩,_,_,rfl,hr,rfl⟩
  obtain ⟨A,c,l,rfl,hs,hk,hn,_⟩:=RowΦ_list (R:=fun _=>argR) hr
  exact ⟨⟨op,dst,a,b,size,sg,sc,ref,off,l⟩,⟨A,c,rfl,hs⟩,h1,h2,h3,h4,h5,h6,h7,Nat.le_trans hn (by decide),hk⟩
def termΦ (_:Hp) (acs:List Value):Prop:=∃ t,acs=termC t∧TermS.ok t
theorem up_term:UpΦ termΦ:=fun _ _ _ _ h=>h
theorem D_term {cs:List Value} (h:TW enc Tryd.prog W 48 cs):D G g0 W cs 0 termΦ:=by
  obtain ⟨hl,hf⟩:=h.fields (l:=[(3,0,1),(3,1,1),(46,2,2),(46,4,2),(3,6,1),(3,7,1)]) (n:=8) (by kernel_rfl) (by kernel_rfl)
  have:=SegD.d (g0:=g0) (G:=G) (off:=0) (cs:=cs) (W:=W) (l:=[(1,0,intΦ),(1,0,intΦ),(2,0,argΦ),(2,0,argΦ),(1,0,intΦ),(1,0,intΦ)])
    ⟨up_int,D_int (by kernel_rfl) (hf (3,0,1) (by simp)),up_int,D_int (by kernel_rfl) (hf (3,1,1) (by simp)),up_arg,D_arg (hf (46,2,2) (by simp)),up_arg,D_arg (hf (46,4,2) (by simp)),up_int,D_int (by kernel_rfl) (hf (3,6,1) (by simp)),up_int,D_int (by kernel_rfl) (hf (3,7,1) (by simp)),hl⟩
  refine D.mono this (by simp [segN]) ?_
  rintro H acs _ ⟨_,_,rfl,⟨k,rfl,h1⟩,_,_,rfl,⟨op,rfl,h2⟩,_,_,rfl,⟨a,rfl,h3⟩,_,_,rfl,⟨b,rfl,h4⟩,_,_,rfl,⟨g,rfl,h5⟩,_,_,rfl,⟨e,rfl,h6⟩,rfl⟩
  exact ⟨⟨k,op,a,b,g,e⟩,rfl,h1,h2,h3,h4,h5,h6⟩
def blockΦ (h:Hp) (acs:List Value):Prop:=∃ x,blockR h acs x∧BlockS.ok x
theorem up_block:UpΦ blockΦ:=fun _ _ _ hm ⟨x,hx,hk⟩=>⟨x,blockR_mono hm hx,hk⟩
theorem D_block {cs:List Value} (h:TW enc Tryd.prog W 50 cs):D G g0 W cs (reachBytes * 1+1) blockΦ:=by
  obtain ⟨hl,hf⟩:=h.fields (l:=[(44,0,1),(48,1,8)]) (n:=9) (by kernel_rfl) (by kernel_rfl)
  have:=SegD.d (g0:=g0) (G:=G) (off:=0) (cs:=cs) (W:=W) (l:=[(1,reachBytes * 1+1,RowΦ 12 reachBytes insΦ),(8,0,termΦ)])
    ⟨RowΦ.up up_ins,D.row (e:=58) up_ins (by kernel_rfl) (by kernel_rfl) (by decide) (Nat.le_of_ble_eq_true (by kernel_rfl)) (fun c hc=>D_ins hc) (hf (44,0,1) (by simp)),up_term,D_term (hf (48,1,8) (by simp)),hl⟩
  refine D.mono this (by simp [segN]) ?_
  rintro H acs _ ⟨_,_,rfl,hr,_,_,rfl,⟨t,rfl,ht⟩,rfl⟩
  obtain ⟨A,c,l,rfl,hs,hk,hn,_⟩:=RowΦ_list (R:=insR) hr
  exact ⟨⟨l,t⟩,⟨A,c,rfl,hs⟩,Nat.le_trans hn (by decide),hk,ht⟩
def funcΦ (h:Hp) (acs:List Value):Prop:=∃ x,funcR h acs x∧FuncS.ok x
def nFunc:Nat:=1+1+(reachBytes * (reachBytes * 1+1)+1)
def byteΦ (_:Hp) (acs:List Value):Prop:=∃ n,byteR acs n∧(0≤n∧n≤255)
theorem up_byte:UpΦ byteΦ:=fun _ _ _ _ h=>h
theorem D_byte {cs:List Value} (h:TW enc Tryd.prog W 5 cs):D G g0 W cs 0 byteΦ:=(D.int (k:=.u8) (by kernel_rfl) h).mono (Nat.le_refl _) fun _ _ _ ⟨n,e,h1,h2⟩=>by
  have e1:IntKind.u8.min=0:=by decide
  have e2:IntKind.u8.max=255:=by decide
  rw [e1] at h1;rw [e2] at h2
  exact ⟨n,e,h1,h2⟩
def partΦ (h:Hp) (acs:List Value):Prop:=∃ x,partR h acs x∧PartS.ok x
theorem up_part:UpΦ partΦ:=fun _ _ _ hm ⟨x,hx,hk⟩=>⟨x,partR_mono hm hx,hk⟩
theorem D_part {cs:List Value} (h:TW enc Tryd.prog W 113 cs):D G g0 W cs 1 partΦ:=by
  obtain ⟨hl,hf⟩:=h.fields (l:=[(3,0,1),(28,1,1),(3,2,1)]) (n:=3) (by kernel_rfl) (by kernel_rfl)
  have:=SegD.d (g0:=g0) (G:=G) (off:=0) (cs:=cs) (W:=W) (l:=[(1,0,intΦ),(1,reachBytes * 0+1,RowΦ 1 reachBytes byteΦ),(1,0,intΦ)])
    ⟨up_int,D_int (by kernel_rfl) (hf (3,0,1) (by simp)),RowΦ.up up_byte,D.row (e:=5) up_byte (by kernel_rfl) (by kernel_rfl) (by decide) (Nat.le_of_ble_eq_true (by kernel_rfl)) (fun c hc=>D_byte hc) (hf (28,1,1) (by simp)),up_int,D_int (by kernel_rfl) (hf (3,2,1) (by simp)),hl⟩
  refine D.mono this (by simp [segN]) ?_
  rintro H acs _ ⟨_,_,rfl,⟨k,rfl,h1⟩,_,_,rfl,hr,_,_,rfl,⟨n,rfl,h2⟩,rfl⟩
  obtain ⟨A,c,l,rfl,hs,hk,hn,_⟩:=RowΦ_list (R:=fun _=>byteR) hr
  exact ⟨⟨k,l,n⟩,⟨A,c,rfl,hs⟩,h1,h2,Nat.le_trans hn (by decide),hk⟩
def globΦ (h:Hp) (acs:List Value):Prop:=∃ x,globR h acs x∧GlobS.ok x
theorem up_glob:UpΦ globΦ:=fun _ _ _ hm ⟨x,hx,hk⟩=>⟨x,globR_mono hm hx,hk⟩
theorem D_glob {cs:List Value} (h:TW enc Tryd.prog W 111 cs):D G g0 W cs (reachBytes * 1+1) globΦ:=by
  obtain ⟨hl,hf⟩:=h.fields (l:=[(9,0,1),(3,1,1),(3,2,1),(109,3,1)]) (n:=4) (by kernel_rfl) (by kernel_rfl)
  have:=SegD.d (g0:=g0) (G:=G) (off:=0) (cs:=cs) (W:=W) (l:=[(1,0,strΦ),(1,0,intΦ),(1,0,intΦ),(1,reachBytes * 1+1,RowΦ 3 reachBytes partΦ)])
    ⟨up_str,D.string (by kernel_rfl) (hf (9,0,1) (by simp)),up_int,D_int (by kernel_rfl) (hf (3,1,1) (by simp)),up_int,D_int (by kernel_rfl) (hf (3,2,1) (by simp)),RowΦ.up up_part,D.row (e:=113) up_part (by kernel_rfl) (by kernel_rfl) (by decide) (Nat.le_of_ble_eq_true (by kernel_rfl)) (fun c hc=>D_part hc) (hf (109,3,1) (by simp)),hl⟩
  refine D.mono this (by simp [segN]) ?_
  rintro H acs _ ⟨_,_,rfl,⟨nm,rfl,_⟩,_,_,rfl,⟨pl,rfl,h1⟩,_,_,rfl,⟨sz,rfl,h2⟩,_,_,rfl,hr,rfl⟩
  obtain ⟨A,c,l,rfl,hs,hk,hn,_⟩:=RowΦ_list (R:=partR) hr
  exact ⟨⟨nm,pl,sz,l⟩,⟨A,c,rfl,hs⟩,h1,h2,Nat.le_trans hn (by decide),hk⟩
def progΦ (h:Hp) (acs:List Value):Prop:=∃ x,progR h acs x∧ProgS.ok x
def nProg:Nat:=reachBytes * nFunc+1+(reachBytes * (reachBytes * 1+1)+1)
end Go.Proofs.YtjhloakacicdiaaDoor
namespace Go.Proofs.YtjhloakacicdiaaDoor
open Go.AH
variable {H:Type} {enc:TypeId × Value→H} {G:Nat} {g0:Nat→Option Blk} {W:World}
def boolΨ (_:Hp) (acs:List Value):Prop:=∃ b,boolR acs b∧True
theorem up_boolΨ:UpΦ boolΨ:=fun _ _ _ _ h=>h
theorem D_boolΨ {cs:List Value} (h:TW enc Tryd.prog W 4 cs):D G g0 W cs 0 boolΨ:=(D.bool (by kernel_rfl) h).mono (Nat.le_refl _) fun _ _ _ ⟨b,e⟩=>⟨b,e,trivial⟩
def funcΨ (h:Hp) (acs:List Value):Prop:=∃ x,funcRS h acs x∧FuncS.ok x
def progΨ (h:Hp) (acs:List Value):Prop:=∃ p A1 c1 A2 c2,acs=progC p A1 c1 A2 c2∧SlAt h A1 6 p.funcs (funcRS h)∧SlAt h A2 4 p.globals (globR h)∧p.ok
end Go.Proofs.YtjhloakacicdiaaDoor
namespace Go.Proofs.YtjhloakacicdiaaDoor
open Go.AH
variable {H:Type} {enc:TypeId × Value→H} {G:Nat} {g0:Nat→Option Blk} {W:World}
def funcN (h:Hp) (acs:List Value):Prop:=∃ x,funcRS h acs x∧FuncS.ok x∧x.name.data.size≤140737488351232
theorem up_funcN:UpΦ funcN:=fun _ _ _ hm ⟨x,hx,hk⟩=>⟨x,funcRS_mono hm hx,hk⟩
theorem D_funcN {cs:List Value} (h:TW enc Tryd.prog W 37 cs):D G g0 W cs nFunc funcN:=by
  obtain ⟨hl,hf⟩:=h.fields (l:=[(9,0,1),(3,1,1),(33,2,1),(3,3,1),(34,4,1),(35,5,1)]) (n:=6) (by kernel_rfl) (by kernel_rfl)
  have:=SegD.d (g0:=g0) (G:=G) (off:=0) (cs:=cs) (W:=W) (l:=[(1,0,strΦ),(1,0,intΦ),(1,reachBytes * 0+1,RowΦ 1 reachBytes boolΨ),(1,0,intΦ),(1,reachBytes * 0+1,RowΦ 1 reachBytes intΦ),(1,reachBytes * (reachBytes * 1+1)+1,RowΦ 9 reachBytes blockΦ)])
    ⟨up_str,D.string (by kernel_rfl) (hf (9,0,1) (by simp)),up_int,D_int (by kernel_rfl) (hf (3,1,1) (by simp)),RowΦ.up up_boolΨ,D.row (e:=4) up_boolΨ (by kernel_rfl) (by kernel_rfl) (by decide) (Nat.le_of_ble_eq_true (by kernel_rfl)) (fun c hc=>D_boolΨ hc) (hf (33,2,1) (by simp)),up_int,D_int (by kernel_rfl) (hf (3,3,1) (by simp)),RowΦ.up up_int,D.row (e:=3) up_int (by kernel_rfl) (by kernel_rfl) (by decide) (Nat.le_of_ble_eq_true (by kernel_rfl)) (fun c hc=>D_int (by kernel_rfl) hc) (hf (34,4,1) (by simp)),RowΦ.up up_block,D.row (e:=50) up_block (by kernel_rfl) (by kernel_rfl) (by decide) (Nat.le_of_ble_eq_true (by kernel_rfl)) (fun c hc=>D_block hc) (hf (35,5,1) (by simp)),hl⟩
  refine D.mono this (by simp [segN,nFunc];omega) ?_
  rintro H acs _ ⟨_,_,rfl,⟨nm,rfl,hnm⟩,_,_,rfl,⟨pa,rfl,h1⟩,_,_,rfl,hr1,_,_,rfl,⟨rg,rfl,h2⟩,_,_,rfl,hr2,_,_,rfl,hr3,rfl⟩
  obtain ⟨A1,c1,l1,rfl,hs1,_,hn1,_⟩:=RowΦ_list (R:=fun _=>boolR) (K:=fun _=>True) hr1
  obtain ⟨A2,c2,l2,rfl,hs2,hk2,hn2,_⟩:=RowΦ_list (R:=fun _=>intR) (K:=fitI) hr2
  obtain ⟨A3,c3,l3,rfl,hs3,hk3,hn3,_⟩:=RowΦ_list (R:=blockR) hr3
  exact ⟨⟨nm,pa,l1.length,rg,l2,l3⟩,⟨A1,c1,A2,c2,A3,c3,l1,rfl,rfl,hs1,hs2,hs3⟩,⟨h1,h2,Nat.le_trans hn1 (by decide),Nat.le_trans hn2 (by decide),hk2,Nat.le_trans hn3 (by decide),hk3⟩,hnm⟩
def progN (h:Hp) (acs:List Value):Prop:=∃ p A1 c1 A2 c2,acs=progC p A1 c1 A2 c2∧SlAt h A1 6 p.funcs (funcRS h)∧SlAt h A2 4 p.globals (globR h)∧p.ok∧∀ f∈p.funcs,f.name.data.size≤140737488351232
theorem D_progN {cs:List Value} (h:TW enc Tryd.prog W 25 cs):D G g0 W cs nProg progN:=by
  obtain ⟨hl,hf⟩:=h.fields (l:=[(22,0,1),(23,1,1),(3,2,1),(3,3,1)]) (n:=4) (by kernel_rfl) (by kernel_rfl)
  have:=SegD.d (g0:=g0) (G:=G) (off:=0) (cs:=cs) (W:=W) (l:=[(1,reachBytes * nFunc+1,RowΦ 6 reachBytes funcN),(1,reachBytes * (reachBytes * 1+1)+1,RowΦ 4 reachBytes globΦ),(1,0,intΦ),(1,0,intΦ)])
    ⟨RowΦ.up up_funcN,D.row (e:=37) up_funcN (by kernel_rfl) (by kernel_rfl) (by decide) (Nat.le_of_ble_eq_true (by kernel_rfl)) (fun c hc=>D_funcN hc) (hf (22,0,1) (by simp)),RowΦ.up up_glob,D.row (e:=111) up_glob (by kernel_rfl) (by kernel_rfl) (by decide) (Nat.le_of_ble_eq_true (by kernel_rfl)) (fun c hc=>D_glob hc) (hf (23,1,1) (by simp)),up_int,D_int (by kernel_rfl) (hf (3,2,1) (by simp)),up_int,D_int (by kernel_rfl) (hf (3,3,1) (by simp)),hl⟩
  refine D.mono this (by simp [segN,nProg]) ?_
  rintro H acs _ ⟨_,_,rfl,hr1,_,_,rfl,hr2,_,_,rfl,⟨d,rfl,h1⟩,_,_,rfl,⟨m,rfl,h2⟩,rfl⟩
  obtain ⟨A1,c1,l1,rfl,hs1,hk1,hn1,_⟩:=RowΦ_list (R:=funcRS) hr1
  obtain ⟨A2,c2,l2,rfl,hs2,hk2,hn2,_⟩:=RowΦ_list (R:=globR) hr2
  exact ⟨⟨l1,l2,d,m⟩,A1,c1,A2,c2,rfl,hs1,hs2,⟨Nat.le_trans hn1 (by decide),fun f hf=>(hk1 f hf).1,Nat.le_trans hn2 (by decide),hk2,h1,h2⟩,fun f hf=>(hk1 f hf).2⟩
end Go.Proofs.YtjhloakacicdiaaDoor
namespace Go.Proofs.YtjhloakacicdiaaDoor
open Go.AH Go.ChangeShapes Go.WideShapes Go.ChangeAt Go.RowKit
variable {H:Type} {enc:TypeId × Value→H} {W:World} {G:Nat} {g0:Nat→Option Blk}
theorem trodAll_below {P:Program} (hl:laidOutB P=true) {W W':World} (hb:Below W.heap.size W W'):∀ {ts:List TypeId} {vs:List Value} {ds:List (DataW H)} {ps:List MemPlace},(∀ t∈ts,P.readableRec t=true∧t < P.types.size)→(∀ x∈ps,x.block < W.heap.size)→DataW.TrodAll enc P W 0 (fun _=>true) true ts vs ds ps→DataW.TrodAll enc P W' 0 (fun b=>decide (b < W.heap.size)) true ts vs ds ps:=by
  intro ts
  induction ts with
  | nil =>
    intro vs ds ps _ _ h
    cases vs with
    | nil=>cases ds with
      | nil=>exact h
      | cons d ds=>exact h.elim
    | cons v vs=>exact h.elim
  | cons t ts ih =>
    intro vs ds ps ht hx h
    cases vs with
    | nil=>exact h.elim
    | cons v vs =>
      cases ds with
      | nil=>exact h.elim
      | cons d ds =>
        obtain ⟨p,q,h1,h2,rfl⟩:=h
        exact ⟨p,q,Below.trod hl (ht t (by simp)).1 (ht t (by simp)).2 h1 hb fun x hx'=>hx x (by simp [hx']),ih (fun t ht'=>ht t (by simp [ht'])) (fun x hx'=>hx x (by simp [hx'])) h2,rfl⟩
theorem Tryd.own:ownKnob Tryd.prog.godebug=none:=by kernel_rfl
theorem Tryd.laidOut:laidOutB Tryd.prog=true:=by kernel_rfl
theorem TW.of {P:Program} {W:World} {t:TypeId} {v:Value} {d:DataW H} {p:List MemPlace} (h:DataW.Trod enc P W 0 (fun _=>true) true t v d p) (hw:okW (d.weights P t)):TW enc P W t v.cells.toList:=by
  obtain ⟨fuel,h⟩:=h
  exact ⟨fuel,(d,p),h,hw⟩
theorem shutB {P:Program} {W:World} {base:Nat} {sp:Nat→Bool} {held:Bool} {t:TypeId} {b:Bool} (ht:P.underlying t=some .bool):DataW.Trod enc P W base sp held t (.bool b) (.lit (.bool b)) []:=⟨1,by simp [DataW.trod,Value.cells,ht]⟩
end Go.Proofs.YtjhloakacicdiaaDoor
namespace Go.Proofs.YtjhloakacicdiaaDoor
open Go Go.AH Go.RowKit
theorem strs_of_tab {H:Type} {enc:TypeId × Value→H} {P:Program} {w:World} {base:Nat} {sp:Nat→Bool} {held:Bool} {fuel:Nat} {t e:TypeId} {n:Nat} {cs:List Value} {zs:List ByteArray} {p:List MemPlace}
    (ht:P.underlying t=some (.array n e)) (he:P.underlying e=some .string) (hce:P.cellsOf e=1) (hct:P.cellsOf t=n)
    (h:DataW.trod enc P w base sp held fuel t cs=some (.agg (zs.map fun z=>.lit (.string z.data.toList)),p)):cs=zs.map Value.string:=by
  cases fuel with
  | zero=>simp [DataW.trod] at h
  | succ fuel =>
    simp only [DataW.trod,ht,hce,hct,Nat.mul_one] at h
    split at h
    · rename_i hl
      obtain ⟨xs,hm,hx⟩:=Option.map_eq_some_iff.1 h
      have hxs:xs.map (·.1)=zs.map fun z=>(DataW.lit (.string z.data.toList):DataW H):=by
        have:=congrArg Prod.fst hx
        simpa using this
      have hxl:xs.length=n:=by simpa using Lib.mapM_length hm
      have hzl:zs.length=n:=by
        have:=congrArg List.length hxs
        simp at this
        omega
      apply List.ext_getElem?
      intro i
      by_cases hi:i < n
      · obtain ⟨b,hb,hf⟩:=Lib.mapM_at hm i i (by simp [hi])
        obtain ⟨z,hc,rfl,_⟩:=DataW.trod_string he hf
        have h1:cs[i]?=some (.string z):=by
          have:=congrArg (·[0]?) hc
          simpa [List.getElem?_take,List.getElem?_drop] using this
        have h2:(xs.map (·.1))[i]?=some (DataW.lit (.string z.data.toList):DataW H):=by simp [hb]
        rw [hxs] at h2
        simp only [List.getElem?_map,Option.map_eq_some_iff,DataW.lit.injEq,Lit.string.injEq] at h2
        obtain ⟨z',hz',e⟩:=h2
        have:z'=z:=by
          have h3:z'.data=z.data:=Array.ext' e
          cases z';cases z;exact congrArg ByteArray.mk h3
        rw [h1,List.getElem?_map,hz',this];rfl
      · rw [List.getElem?_eq_none (by omega),List.getElem?_eq_none (by simp;omega)]
    · cases h
def dLaid : List (String × DataW Unit) := [("math/bits.deBruijn32tab", Rows.laid_math_bits_deBruijn32tab), ("math/bits.deBruijn64tab", Rows.laid_math_bits_deBruijn64tab), ("internal/strconv.uint64pow10", Rows.laid_internal_strconv_uint64pow10), ("merlon/rtl.names", Rows.laid_merlon_rtl_names)]
theorem gPow : Tryd.prog.globalNamed "internal/strconv.uint64pow10" = some 1 := by kernel_rfl
theorem gNames : Tryd.prog.globalNamed "merlon/rtl.names" = some 0 := by kernel_rfl
theorem tPow:(Tryd.prog.globals[1]?).map (·.type)=some 177:=by kernel_rfl
theorem tNames:(Tryd.prog.globals[0]?).map (·.type)=some 82:=by kernel_rfl
theorem laid_pow:(Rows.laid_internal_strconv_uint64pow10:DataW Unit)=Lib.tabData .u64 Lib.pow10Tab:=by kernel_rfl
theorem laid_names:(Rows.laid_merlon_rtl_names:DataW Unit)=.agg (namesS.map fun z=>.lit (.string z.data.toList)):=by kernel_rfl
theorem cellsPow:Tryd.prog.cellsOf 177=20:=by kernel_rfl
theorem cellsNames:Tryd.prog.cellsOf 82=31:=by kernel_rfl
theorem cellsU64:Tryd.prog.cellsOf 90=1:=by kernel_rfl
theorem cellsStr:Tryd.prog.cellsOf 9=1:=by kernel_rfl
theorem rowPow:∃ z,((begin Tryd.prog (fun _ _=>0) default).world.heap[1]?).bind Obj.row?=some (z,177):=by
  have h:(((begin Tryd.prog (fun _ _=>0) default).world.heap[1]?).bind Obj.row?).map Prod.snd=some 177:=by kernel_rfl
  obtain ⟨⟨z,t⟩,h1,h2⟩:=Option.map_eq_some_iff.1 h
  simp only at h2
  subst h2
  exact ⟨z,h1⟩
theorem rowNames:∃ z,((begin Tryd.prog (fun _ _=>0) default).world.heap[0]?).bind Obj.row?=some (z,82):=by
  have h:(((begin Tryd.prog (fun _ _=>0) default).world.heap[0]?).bind Obj.row?).map Prod.snd=some 82:=by kernel_rfl
  obtain ⟨⟨z,t⟩,h1,h2⟩:=Option.map_eq_some_iff.1 h
  simp only at h2
  subst h2
  exact ⟨z,h1⟩
theorem gsizeD:Tryd.prog.globals.size=5:=by kernel_rfl
set_option maxRecDepth 100000 in
theorem d_tabs {W : World} (h : laidMetH Tryd.prog dLaid W) : W.var? Tryd.prog "internal/strconv.uint64pow10" = some (Lib.pow10Tab.map (Value.int .u64)).toArray ∧ W.var? Tryd.prog "merlon/rtl.names" = some (strV namesS).toArray := by
  rw [MakeChecks.laidMetH_plain _ _ _ (by kernel_rfl)] at h
  obtain ⟨ps,⟨_,_,_,_,_,_,_,_,_,_,⟨_,_,_,_,_,_,_,_,_,_,⟨g2,t2,c2,f2,p2,q2,hg2,ht2,hv2,hd2,⟨g3,t3,c3,f3,p3,q3,hg3,ht3,hv3,hd3,_,_⟩,_⟩,_⟩,_⟩,_⟩:=h
  obtain rfl:=Option.some.inj (gPow.symm.trans hg2)
  obtain rfl:=Option.some.inj (tPow.symm.trans ht2)
  obtain rfl:=Option.some.inj (gNames.symm.trans hg3)
  obtain rfl:=Option.some.inj (tNames.symm.trans ht3)
  rw [laid_pow] at hd2
  rw [laid_names] at hd3
  have e2:=Lib.cells_of_tab Tryd.underlying177 Tryd.underlying90 cellsU64 cellsPow hd2
  have e3:=strs_of_tab Tryd.underlying82 Tryd.underlying9 cellsStr cellsNames hd3
  refine ⟨?_,?_⟩
  · rw [hv2,← e2]
  · rw [hv3]
    unfold strV
    rw [← e3]
theorem d_start {W:World} (hsh:W.ShapedOpen Tryd.prog) (hL:laidMetH Tryd.prog dLaid W):∃ g0:Nat→Option Blk,(∀ i b,i < Tryd.prog.globals.size→g0 i=some b→(∃ (tail:Array Value) (fr:Nat × Nat),W.heap[i]?=some (.cells (b.cells++tail) b.elem fr))∧∀ v∈b.cells,bnd 0 v)∧∀ ws,GT (hpW Tryd.prog.globals.size g0 ws)∧NT (hpW Tryd.prog.globals.size g0 ws):=by
  obtain ⟨z1,h1⟩:=rowPow
  obtain ⟨z0,h0⟩:=rowNames
  obtain ⟨c1,hh1,_,_⟩:=hsh.1 _ z1 _ (by rw [gsizeD];decide) h1
  obtain ⟨c0,hh0,_,_⟩:=hsh.1 _ z0 _ (by rw [gsizeD];decide) h0
  obtain ⟨hp,hn⟩:=d_tabs hL
  have e1:c1=(Lib.pow10Tab.map (Value.int .u64)).toArray:=by
    unfold World.var? at hp
    rw [gPow] at hp
    simpa only [Option.bind_some,hh1,Option.some.injEq] using hp
  have e0:c0=(strV namesS).toArray:=by
    unfold World.var? at hn
    rw [gNames] at hn
    simpa only [Option.bind_some,hh0,Option.some.injEq] using hn
  refine ⟨fun i=>if i=0 then some ⟨⟨strV namesS⟩,82⟩ else if i=1 then some ⟨⟨Lib.pow10Tab.map (Value.int .u64)⟩,177⟩ else none,fun i b hi hb=>?_,fun ws=>⟨⟨177,?_⟩,⟨82,?_⟩⟩⟩
  · dsimp only at hb
    by_cases q0:i=0
    · rw [if_pos q0] at hb
      injection hb with hb
      subst hb
      refine ⟨⟨#[],_,by rw [q0,hh0,e0,Array.append_empty]⟩,fun v hv=>?_⟩
      have hv:v∈strV namesS:=by simpa using hv
      obtain ⟨s,_,rfl⟩:=List.mem_map.1 hv
      simp
    · rw [if_neg q0] at hb
      by_cases q1:i=1
      · rw [if_pos q1] at hb
        injection hb with hb
        subst hb
        refine ⟨⟨#[],_,by rw [q1,hh1,e1,Array.append_empty]⟩,fun v hv=>?_⟩
        have hv:v∈Lib.pow10Tab.map (Value.int .u64):=by simpa using hv
        obtain ⟨s,_,rfl⟩:=List.mem_map.1 hv
        simp
      · rw [if_neg q1] at hb;cases hb
  · simp [hpW,gsizeD]
  · simp [hpW,gsizeD]
theorem d_door (os:Os) (args:Array Value):laidMetH Tryd.prog dLaid ((World.doorLaid Tryd.prog 4000 os).forCall (fun _ _=>0) ⟨#[],args,[]⟩).memory :=
  laidMetH_of_parts3 (fuel:=8) (laidMet_of_run' 8 (by kernel_rfl) (by kernel_rfl)) (by kernel_rfl) (by kernel_rfl)
end Go.Proofs.YtjhloakacicdiaaDoor
namespace Go.Proofs.YtjhloakacicdiaaDoor
open Go Go.AH Go.ChangeShapes Go.WideShapes Go.ChangeAt Go.RowKit
set_option maxRecDepth 100000 in
theorem deadAgain_lifted (os:Os) (started:os.Started) (H:Type) (enc:TypeId × Value→H) :
    ReturnsInHanded {} Tryd.checked os 4 .any (fun w args=>(Rows.deadAgainSpec.pre enc Tryd.prog Tryd.f4 [] false w args∧laidMetH Tryd.prog dLaid w)∧sizedMet enc Tryd.prog Tryd.f4 (OpenSpec.ofChange Rows.deadAgainSpec) false w args)
      (Rows.deadAgainSpec.post enc Tryd.prog Tryd.f4 false true false false):=by
  refine handed_and_shaped (C:=Tryd.checked) (X:=fun w _=>laidMetH Tryd.prog dLaid w) (fun _ _ _ hh h=>h.of_heap hh) Tryd.own started (by kernel_rfl) Tryd.func4
    (ChangeSpec.witness_shaped (enc:=enc) (C:=Tryd.checked) (os:=os) (X:=fun w _=>laidMetH Tryd.prog dLaid w) false (World.doorLaid Tryd.prog 4000 os) #[.agg #[.slice none 0 0,.slice none 0 0,.int .i64 0,.int .i64 0]] 8 rfl (World.shaped_of_RefB (by kernel_rfl) (by kernel_rfl)) (by kernel_rfl) (by kernel_rfl) (by kernel_rfl) (d_door os _)) ?_
  intro W base args ds gs before hval0 hW _ hwt0 hL hsh _
  have hval:∀ (j:Nat) t v,Tryd.f4.params[j]?=some t→args[j]?=some v→Value.okWide Tryd.prog W .any base t v:=hval0
  have hwt:(DataW.weightsEach Tryd.prog (Tryd.f4.params.toList++Rows.deadAgainSpec.plain.varTypes Tryd.prog) (ds++gs)).all (·≤reachBytes)=true:=hwt0
  have hW':DataW.Whole enc Tryd.prog Tryd.f4.params.toList Rows.deadAgainSpec.vars false W args.toList ds gs before:=hW
  obtain ⟨p,q,hA0,hV,hbe,hfz,hnd⟩:=hW
  have hA:DataW.TrodAll enc Tryd.prog W 0 (fun _=>true) true Tryd.f4.params.toList args.toList ds p:=hA0
  have hpar:Tryd.f4.params=#[25]:=by kernel_rfl
  have hA1:=hA
  rw [hpar] at hA1 hval hwt
  obtain ⟨v0,d0,rfl,rfl,h0⟩:=trodAll_one hA1
  obtain ⟨rfl,rfl⟩:=trodVars_none hV
  have hw3:(DataW.weightsEach Tryd.prog [25] [d0]).all (fun x=>decide (x≤reachBytes))=true:=hwt
  simp only [DataW.weightsEach,List.all_append,Bool.and_eq_true] at hw3
  have hk0:okW (d0.weights Tryd.prog 25):=fun n hn=>by simpa using List.all_eq_true.1 hw3.1 n hn
  obtain ⟨cs0,rfl,hz0⟩:=okWide_struct Tryd.underlying25 (hval 0 25 v0 rfl rfl)
  have t0:TW enc Tryd.prog W 25 cs0.toList:=TW.of h0 hk0
  obtain ⟨g0,hg0,hgt⟩:=d_start hsh hL
  obtain ⟨ws,acs,hlay,hlen,hmap,hbd,pr,P1,e1,P2,e2,rfl,hfs,hgs,hok,hnm⟩:=D_progN (G:=Tryd.prog.globals.size) (g0:=g0) t0 [] ⟨fun i w b h=>by simp at h,fun i w b h=>by simp at h⟩
  rw [List.nil_append] at hlay hmap hbd hfs hgs
  have hG:Tryd.prog.globals.size+ws.length≤rwM:=Nat.le_trans (Nat.add_le_add_left hlen _) (Nat.le_of_ble_eq_true (by kernel_rfl))
  have ec0:cs0=⟨(progC pr P1 e1 P2 e2).map (ren (envW Tryd.prog.globals.size ws))⟩:=by rw [hmap]
  have hN:(hpW Tryd.prog.globals.size g0 ws).n=rwM:=hpW_n _ _ _
  have hb0:∀ v∈progC pr P1 e1 P2 e2,bnd (hpW Tryd.prog.globals.size g0 ws).n v:=fun v hv=>by rw [hN];exact bnd_mono hG v (hbd v hv)
  have ht:=DeadAgain_tf (hpW Tryd.prog.globals.size g0 ws) (hgt ws).1 (hgt ws).2 pr hok hnm P1 e1 P2 e2 hfs hgs
  have hh:=TF.below ht (fun i b h=>h) (by
    intro x hx
    have hx:x=Value.agg ⟨progC pr P1 e1 P2 e2⟩:=by simpa using hx
    subst hx
    rw [bnd_agg];exact fun v hv=>hb0 v (by simpa using hv)) (Lay.hok hlay hG hg0)
  have hargs:(⟨[.agg ⟨progC pr P1 e1 P2 e2⟩]⟩:Array Value).map (ren (envW Tryd.prog.globals.size ws))=#[.agg cs0]:=by
    rw [ec0]
    simp only [List.map_toArray,List.map_cons,List.map_nil,ren_agg]
  rw [hargs] at hh
  refine hh.mono fun e W' ⟨⟨ρ',he⟩,hb⟩=>?_
  have hres:DataW.TrodAll enc Tryd.prog W' W.heap.size (fun _=>false) false [4] [.bool true] [.lit (.bool true)] []:=trodAll_mk1 (shutB (by kernel_rfl))
  refine ⟨.bool true,by simpa using he,[d0],[],before,[],p,[],hW',hres,?_,rfl,Below.frame hb _,fun h=>by cases h⟩
  refine trodAll_below Tryd.laidOut hb (ts:=Tryd.f4.params.toList) (fun t ht=>?_) (fun x hx=>hW'.lt x (by rw [hbe,List.append_nil];exact hx)) hA
  rw [hpar] at ht
  have ht:t=25:=by simpa using ht
  subst ht
  exact ⟨by kernel_rfl,of_decide_eq_true (by kernel_rfl)⟩
theorem deadAgain_holds:Rows.DeadAgainSaid :=
  OpenClaim.holds_of_wide 4 Tryd.f4 rfl rfl rfl rfl rfl rfl rfl ⟨rfl,rfl,rfl,rfl,rfl⟩ rfl rfl rfl rfl rfl (by kernel_rfl) Tryd.func4 (by kernel_rfl)
    (of_decide_eq_true (by kernel_rfl)) (by unfold Func.isWrapper;rw [if_neg (by decide +kernel)];exact ⟨rfl,rfl⟩)
    (fun os started H enc _=>deadAgain_lifted os started H enc)
theorem deadAgain_card:Rows.DeadAgainCardSaid :=
  Claim7.holds_tied_plain_at .later [] [.data, .data, .data, .data] true (true, "4301043a9d7481003906c8a6f3ade470f248aed11d6693d68c136400572a01d6") false
    deadAgain_holds (fun _ h=>by cases h) (by kernel_rfl) (fun _ h=>by cases h) deadAgain_row_tie rfl ⟨rfl,rfl⟩ (by kernel_rfl) rfl
    (fun f fn hf hfn=>by
      obtain rfl:f=4:=Option.some.inj ((show Tryd.prog.funcNamed Rows.deadAgainRow.func=some 4 by kernel_rfl).symm.trans hf) |>.symm
      obtain rfl:fn=Tryd.f4:=(Option.some.inj (Tryd.func4.symm.trans hfn)).symm
      exact ⟨by kernel_rfl,fun j t ht=>by
        rw [show Tryd.f4.params=#[25] by kernel_rfl] at ht
        have h3:t=25:=by
          rcases j with _|j
          · simpa using ht.symm
          · simp at ht
        subst h3
        exact (show Tryd.prog.wantsStandIn 25=false by kernel_rfl)⟩)
    (by kernel_rfl)
#print axioms deadAgain_card
end Go.Proofs.YtjhloakacicdiaaDoor
