/-
  What the functions that the law reaches compute,told by plain data;it holds of programs that pass the check of right form and are light.
-/
import Derived.Maps.RangeRun
import Derived.Test.YtjhloakacicdiaaDoorR21
set_option linter.unusedVariables false
set_option linter.unusedSimpArgs false
namespace Go.Proofs.YtjhloakacicdiaaDoor
open Go.AH
attribute [local irreducible] W RS
structure KeepC (bb mb:Nat) (h h':Hp):Prop where
 le:h.n≤h'.n
 m:∀ i b,h.m i=some b→i≠bb→i≠mb→h'.m i=some b
theorem rowK_append (l:List KnV) (v:KnV):rowK l++[knC v]=rowK (l++[v]):=by simp [rowK]
theorem rowK_nil {l:List KnV}:rowK l=[]↔l=[]:=by simp [rowK]
theorem filter_take {α:Type} (p:α→Bool) {l:List α} {i:Nat} {v:α} (h:l[i]?=some v):(l.take (i+1)).filter p=(l.take i).filter p++(if p v=true then [v] else []):=by
 rw [List.take_add_one,h,Option.toList_some,List.filter_append]
 congr 1
 simp [List.filter_cons]
structure FilI (h:Hp) (p:KnV→Bool) (l:List KnV) (i r':Nat) (B:Hp):Prop where
 up:∀ j b,h.m j=some b→B.m j=some b
 le:h.n≤B.n
 row:(l.take i).filter p≠[]→h.n≤r'∧B.m r'=some ⟨⟨(rowK ((l.take i).filter p)).flatten⟩,130⟩
theorem FilI.push {h B B7 H7:Hp} {p:KnV→Bool} {l:List KnV} {i r' r7:Nat} {v:KnV} (hd:∀ i b,h.m i=some b→i < h.n) (hI:FilI h p l i r' B) (hft:(l.take (i+1)).filter p=(l.take i).filter p++[v]) (hup:∀ j b,B.m j=some b→B7.m j=some b) (hd7:∀ j b,B7.m j=some b→j < B7.n) (hlB:B.n≤B7.n)
 (hr7:B7.n≤r7) (hm7:H7.m r7=some ⟨⟨(rowK ((l.take i).filter p)++[knC v]).flatten⟩,130⟩) (hle7:B7.n≤H7.n) (hoff7:∀ j,j < B7.n→(rowK ((l.take i).filter p)≠[]→j≠r')→H7.m j=B7.m j):FilI h p l (i+1) r7 H7:=by
 have hle:=hI.le
 refine ⟨fun j b hb=>?_,by omega,fun _=>⟨by omega,by rw [hft,← rowK_append];exact hm7⟩⟩
 have h7:=hup _ _ (hI.up _ _ hb)
 rw [hoff7 j (hd7 _ _ h7) (fun hn=>?_)]
 ·exact h7
 ·have:=(hI.row (fun e=>hn (by rw [e];rfl))).1
  have:=hd _ _ hb
  omega
theorem CseAt.ne {h:Hp} {N bb mb:Nat} {s:CseS} (o:CseAt h N bb mb s):mb≠bb:=by
 intro e
 obtain ⟨r,l,_,h2,_⟩:=o.row
 have:=o.hm
 rw [e,h2] at this
 injection this with this
 injection this with _ this
 have h3:=mapE_ge s.m
 rw [← this] at h3
 exact absurd h3 (by decide)
theorem cse_close {h B B':Hp} {N bb mb:Nat} {s:CseS} (hd:∀ i b,h.m i=some b→i < h.n) (o:CseAt h N bb mb s) (hup:∀ j b,h.m j=some b→B.m j=some b) (hle:h.n≤B.n) (r':Nat) (l':List KnV) (hrow:l'≠[]→h.n≤r'∧B.m r'=some ⟨⟨(rowK l').flatten⟩,130⟩)
 (hB':∀ j b,(B.set bb ⟨⟨[.map (some mb),rowVl 13 r' (rowK l')]⟩,98⟩).m j=some b→B'.m j=some b) (hle':B.n≤B'.n):CseAt B' N bb mb ⟨s.m,l'.map (·.k)⟩∧KeepC bb mb h B':=by
 have hne:=o.ne
 obtain ⟨r,l,_,h2,_⟩:=o.row
 have hbn:=hd _ _ h2
 have hgb:=o.gb
 have off:∀ j b,B.m j=some b→j≠bb→B'.m j=some b:=fun j b hb hj=>hB' j b (by show (if j=bb then _ else B.m j)=_;rw [if_neg hj];exact hb)
 refine ⟨⟨o.rw,o.gb,o.gm,off _ _ (hup _ _ o.hm) hne,o.ok,r',l',rfl,hB' _ _ (by show (if bb=bb then _ else B.m bb)=_;rw [if_pos rfl]),fun hn=>?_⟩,⟨Nat.le_trans hle hle',fun j b hb h1 _=>off _ _ (hup _ _ hb) h1⟩⟩
 obtain ⟨g1,g2⟩:=hrow hn
 exact ⟨by omega,off _ _ g2 (by omega)⟩
set_option maxRecDepth 100000 in
theorem memory_ex (h:Hp) (N bb mb:Nat) (s:CseS) (hw:s.w.length≤1000000000) (o:CseAt h N bb mb s):EX Tryd.prog 74 [.pointer (some ⟨bb,0,none⟩)] h (fun v h'=>v=.tuple #[]∧CseAt h' N bb mb ⟨s.m,memW s.w⟩∧KeepC bb mb h h'):=by
 obtain ⟨r,l,hl,hB0,hR⟩:=o.row
 have hll:l.length=s.w.length:=by rw [← hl];simp
 refine EX.intro (fn:=Tryd.f74) (c:=(Tryd.f74.body.getD .skip)) Tryd.func74 (by kernel_rfl) Tryd.ntmps74 (by kernel_rfl) fun π s0=>?_
 conv=>arg 2;whnf
 have hd:=s0.dom
 have hB:=hB0
 have hBn:=hd _ _ hB
 rw [rowVl_eq] at hB
 have hrl:(rowK l).length=l.length:=by simp [rowK]
 ((with_reducible apply W.seq);repeat (first|refine Y14 ?_|refine Y0 ?_|refine Y1 ?_|refine Y12 ?_))
 ((with_reducible apply W.seq);repeat (fail))
 ((with_reducible apply W.seq);repeat (first|refine Y3x ?_|refine Y21 ?_|refine Y0 ?_|refine Y1 ?_|refine Y47 ?_))
 refine W.loopN (X:=Nat × Nat) (fun x=>[(0,.pointer (some ⟨bb,0,none⟩)),(8,.slice (if rowK l=[] then none else some ⟨r,0,none⟩) l.length (if rowK l=[] then 0 else capOf 13)),(9,.int .i64 (l.length:Int)),(10,.int .i64 (x.1:Int)),(2,rowVl 13 x.2 (rowK ((l.take x.1).filter fun v=>decide (v.k.1.op≠26))))])
  (fun x B=>x.1≤l.length∧FilI h (fun v=>decide (v.k.1.op≠26)) l x.1 x.2 B) (fun x=>l.length - x.1)
  (fun B' a=>⟨(0,0),by (rw [← hrl];(repeat' (first|exact trivial|exact rfl|apply And.intro));done),⟨Nat.zero_le _,a.up,a.le,fun hn=>by simp at hn⟩⟩) ?_
 rintro ⟨i,r'⟩ B π1 sB ⟨hi,hI⟩
 dsimp only at hi hI ⊢
 by_cases hlt:i < l.length
 ·obtain ⟨v,hv⟩:∃ v,l[i]?=some v:=⟨_,List.getElem?_eq_getElem hlt⟩
  have hne:l≠[]:=by intro e;rw [e] at hlt;exact absurd hlt (Nat.not_lt_zero _)
  have hne2:rowK l≠[]:=fun e=>hne (rowK_nil.1 e)
  have hr:=hI.up _ _ (hR hne).2
  have hrn:=sB.dom _ _ hr
  have hle:0+i * 13+13≤(rowK l).flatten.length:=by rw [rowK_flat];omega
  have hft:=filter_take (fun v:KnV=>decide (v.k.1.op≠26)) hv
  have hfl:((l.take i).filter fun v=>decide (v.k.1.op≠26)).length≤1000000000:=Nat.le_trans (List.length_filter_le _ _) (by rw [List.length_take];omega)
  rw [if_neg hne2,if_neg hne2]
  by_cases hop:v.k.1.op=26
  ·repeat (first|refine Y9 ?_|refine Y2g ?_|refine Y2 ?_|refine Y1a ?_|refine Y3 ?_|refine Yb ?_|refine Y7 ?_|refine Y4 ?_|refine Yd ?_|refine Y0 ?_|refine Yg ?_|refine Y1 ?_|refine Y5 ?_|refine Y6 ?_)
   rw [if_neg (by simp [hop]),List.append_nil] at hft
   exact roundN_n rfl fun B' a=>⟨(i+1,r'),by (rw [hft];(repeat' (first|exact trivial|exact rfl|apply And.intro));done),⟨hlt,fun j b hb=>a.up _ _ (hI.up _ _ hb),Nat.le_trans hI.le a.le,fun hn=>by rw [hft] at hn ⊢;exact ⟨(hI.row hn).1,a.up _ _ (hI.row hn).2⟩⟩,by omega⟩
  ·repeat (first|refine Y9 ?_|refine Y2g ?_|((with_reducible apply RS.pushRow (v:=knC v) (L:=rowK ((l.take i).filter fun v=>decide (v.k.1.op≠26))));(iterate 6 exact rfl);exact fun Bq hBq=>⟨hBq.loc 1 (by decide:(1:Nat) < 2),fun hn=>(have hn:(l.take i).filter (fun v=>decide (v.k.1.op≠26))≠[]:=fun e=>hn (by rw [e];rfl);⟨Nat.le_trans s0.rw (hI.row hn).1,hBq.up _ _ (hI.row hn).2⟩)⟩;exact rowK_len _;(iterate 2 exact rfl);(rw [show (rowK ((l.take i).filter fun v=>decide (v.k.1.op≠26))).length=_ from List.length_map ..];omega);(rw [show (rowK ((l.take i).filter fun v=>decide (v.k.1.op≠26))).length=_ from List.length_map ..];omega);intro B7 hB7 r7 H7 π7 sH7 hr7 hm7 hle7 hoff7)|refine Yn ?_|refine Yc ?_|refine Y3 ?_|refine Yb ?_|refine Y7 ?_|refine Ya ?_|refine Y4 ?_|refine Yd ?_|refine Y0 ?_|refine Yg ?_|refine Y1 ?_|refine Y5 ?_)
   rw [if_pos (by simp [hop])] at hft
   have hI7:=hI.push hd hft hB7.up hB7.dom hB7.le hr7 hm7 hle7 hoff7
   exact roundN_n rfl fun B' a=>⟨(i+1,r7),by (rw [hft,← rowK_append];(repeat' (first|exact trivial|exact rfl|apply And.intro));done),⟨hlt,fun j b hb=>a.up _ _ (hI7.up _ _ hb),Nat.le_trans hI7.le a.le,fun hn=>⟨(hI7.row hn).1,a.up _ _ (hI7.row hn).2⟩⟩,by omega⟩
 ·have hil:i=l.length:=by omega
  subst hil
  rw [List.take_length] at *
  have hBb:=hI.up _ _ hB
  have hBbn:=sB.dom _ _ hBb
  have hBr:=Nat.le_trans o.rw o.gb
  rw [rowVl_eq]
  repeat (first|refine Y2 ?_|((with_reducible apply RS.storeB);(iterate 3 exact rfl);exact hBb;exact hBbn;exact hBr;exact Nat.le_of_ble_eq_true rfl;iterate 3 exact rfl)|refine Y29 ?_|refine Y0 ?_|refine Y4m ?_|refine Y1 ?_|refine Y6 ?_|refine Yi ?_)
  refine endsK_normal [] .nil fun B' a=>⟨rfl,?_⟩
  have:=cse_close hd o hI.up hI.le r' (l.filter fun v=>decide (v.k.1.op≠26)) (fun hn=>by have:=hI.row (by rw [List.take_length];exact hn);rw [List.take_length] at this;exact this) (by rw [rowVl_eq];exact a.up) a.le
  have e:(l.filter fun v=>decide (v.k.1.op≠26)).map (·.k)=memW s.w:=by unfold memW;rw [← hl,List.filter_map];rfl
  rw [e] at this
  exact this
def keepR (r:Int) (row:MRow):Bool:=decide (row.2.getD 1 0≠r)
structure RgI (B:Hp) (ρ0:Env) (W0:World) (bb mb it:Nat) (r:Int) (V:Value) (m0:MapC) (D:Nat→Prop) (H:Hp) (ρ:Env) (W:World) (m:MapC) (seen:Array Nat) (c0:Nat):Prop where
 hok:HOK Tryd.prog.globals.size H ρ W
 ext:Ext B H ρ0 ρ W0 W
 lo:B.n≤it
 hi:it < H.n
 hb:H.m bb=some ⟨⟨[.map (some mb),V]⟩,98⟩
 hm:H.m mb=some ⟨⟨[]⟩,mapE m⟩
 keep:∀ i b,B.m i=some b→i≠mb→H.m i=some b
 iter:W.heap[ρ.loc it]?=some (.mapIter (some (ρ.loc mb)) m0.clock seen c0)
 new:W0.heap.size≤ρ.loc it
 sh:ρ.sh it=0
 ok:MOK m
 clk:m.clock=m0.clock
 c0:m0.clock≤c0
 done:∀ row∈m.rows,D row.1→keepR r row=true
 filt:m.rows.filter (keepR r)=m0.rows.filter (keepR r)
theorem RgI.apart {B:Hp} {ρ0:Env} {W0:World} {bb mb it:Nat} {r:Int} {V:Value} {m0:MapC} {D:Nat→Prop} {H:Hp} {ρ:Env} {W:World} {m:MapC} {seen:Array Nat} {c0:Nat} (g:RgI B ρ0 W0 bb mb it r V m0 D H ρ W m seen c0):∀ i b,H.m i=some b→ρ.loc i≠ρ.loc it:=by
 intro i b hb e
 have hf:=g.hok.fits i b hb
 rw [e,g.iter] at hf
 rcases hf with ⟨_,_,_,hx,_⟩|⟨_,hx,_⟩<;>cases hx
theorem RgI.step {B:Hp} {ρ0:Env} {W0:World} {bb mb it:Nat} {r:Int} {V:Value} {m0:MapC} {D:Nat→Prop} {H:Hp} {ρ:Env} {W:World} {m:MapC} {seen:Array Nat} {c0:Nat} (g:RgI B ρ0 W0 bb mb it r V m0 D H ρ W m seen c0) {H':Hp} {ρ':Env} {W':World} {m':MapC} (hok':HOK Tryd.prog.globals.size H' ρ' W') (hE:Ext H H' ρ ρ' W W')
 (hb':H'.m bb=H.m bb) (hm':H'.m mb=some ⟨⟨[]⟩,mapE m'⟩) (hk:∀ i b,H.m i=some b→i≠mb→H'.m i=some b) (ok':MOK m') (clk':m'.clock=m.clock) {D':Nat→Prop} (done':∀ row∈m'.rows,D' row.1→keepR r row=true) (filt':m'.rows.filter (keepR r)=m.rows.filter (keepR r)):RgI B ρ0 W0 bb mb it r V m0 D' H' ρ' W' m' seen c0 where
 hok:=hok'
 ext:=g.ext.trans hE
 lo:=g.lo
 hi:=Nat.lt_of_lt_of_le g.hi hE.mono
 hb:=hb'.trans g.hb
 hm:=hm'
 keep i b h1 h2:=hk i b (g.keep i b h1 h2) h2
 iter:=by
  have hl:ρ.loc it < W.heap.size:=(Array.getElem?_eq_some_iff.1 g.iter).1
  rw [(hE.agree it g.hi).1,(hE.agree mb (g.hok.lt _ _ g.hm)).1,hE.kept _ hl (fun i b _ hb=>g.apart i b hb)]
  exact g.iter
 new:=by rw [(hE.agree it g.hi).1];exact g.new
 sh:=by rw [(hE.agree it g.hi).2.2];exact g.sh
 ok:=ok'
 clk:=clk'.trans g.clk
 c0:=g.c0
 done:=done'
 filt:=filt'.trans g.filt
theorem RgI.turn {B:Hp} {ρ0:Env} {W0:World} {bb mb it:Nat} {r:Int} {V:Value} {m0:MapC} {D:Nat→Prop} {H:Hp} {ρ:Env} {W:World} {m:MapC} {seen:Array Nat} {c0:Nat} (g:RgI B ρ0 W0 bb mb it r V m0 D H ρ W m seen c0) {w1:World} (hw:w1=W∨w1=W.drew) (e:Nat) :
 RgI B ρ0 W0 bb mb it r V m0 D H ρ (ChangeMaps.setBlock w1 (ρ.loc it) (.mapIter (some (ρ.loc mb)) m0.clock (seen.push e) m.clock)) m (seen.push e) m.clock:=by
 have hh:w1.heap=W.heap∧w1.tape=W.tape∧w1.os=W.os∧w1.output=W.output:=by rcases hw with rfl|rfl<;>exact ⟨rfl,rfl,rfl,rfl⟩
 obtain ⟨e1,e2,e3,e4⟩:=hh
 have hl:ρ.loc it < W.heap.size:=(Array.getElem?_eq_some_iff.1 g.iter).1
 have hoff:∀ c,c≠ρ.loc it→(ChangeMaps.setBlock w1 (ρ.loc it) (.mapIter (some (ρ.loc mb)) m0.clock (seen.push e) m.clock)).heap[c]?=W.heap[c]?:=by
  intro c hc
  simp only [ChangeMaps.setBlock,e1,Array.getElem?_setIfInBounds,if_neg (Ne.symm hc)]
 refine ⟨⟨fun i b hb=>?_,g.hok.lt,g.hok.inj,g.hok.bd,g.hok.glob,g.hok.gle,g.hok.gow⟩,⟨g.ext.agree,g.ext.mono,fun c hc hn=>?_,?_,g.ext.own,?_,?_,?_,fun i b hi hb=>?_⟩,g.lo,g.hi,g.hb,g.hm,g.keep,?_,g.new,g.sh,g.ok,g.clk,by rw [g.clk];exact Nat.le_refl _,g.done,g.filt⟩
 ·rw [hoff _ (g.apart i b hb)];exact g.hok.fits i b hb
 ·have:=g.new
  rw [hoff c (by omega)];exact g.ext.kept c hc hn
 ·have:=g.ext.size;simp [ChangeMaps.setBlock,e1];exact this
 ·show w1.tape=_;rw [e2];exact g.ext.tape
 ·show w1.os=_;rw [e3];exact g.ext.os
 ·show w1.output=_;rw [e4];exact g.ext.output
 ·obtain ⟨c,h1,h2,h3⟩:=g.ext.surv i b hi hb
  refine ⟨c,h1,h2,?_⟩
  have:=g.new
  have hne:ρ0.loc i≠ρ.loc it:=by
   intro e
   have:=g.apart i b hb
   rw [(g.ext.agree i hi).1] at this
   exact this e
  rw [hoff _ hne];exact h3
 ·simp [ChangeMaps.setBlock,e1,hl]
theorem put_free {ρ:Env} {a:Act} {d:Option Tmp} {v:Value} (hv:bnd 0 v):(renA ρ a).put d v=renA ρ (a.put d v):=by rw [put_ren,ren_free ρ v hv]
theorem ev_at {ρ:Env} {G:Nat} {a:Act} {f:Fr} {x:Operand} {v:Value} (hg:∀ g,g < G→ρ.loc g=g∧ρ.sh g=0) (g:Agr f a) (hx:f.ev x=some v) (hk:okOp G x):(renA ρ a).eval x=ren ρ v:=by rw [eval_ren hg a x hk,g.ev hx]
section
variable {o:Oper} {ev:Operand→Value} {W W':World}
theorem exec_next {x:Operand} {u v:Value} (ho:o.op=.next x false) (hx:ev x=u) (hr:(Instr.next u false o.type).run Tryd.prog W=.ok v W'):(execOp ev o).run Tryd.prog W=.ok (.value v) W':=by
 simp only [execOp,ho,hx,Sem.run_bind,hr,Result.andThen_ok,Sem.run_pure]
theorem exec_entry {x:Operand} {u v:Value} (ho:o.op=.entry x) (hx:ev x=u) (hr:(Instr.entry u).run Tryd.prog W=.ok v W'):(execOp ev o).run Tryd.prog W=.ok (.value v) W':=by
 simp only [execOp,ho,hx,Sem.run_bind,hr,Result.andThen_ok,Sem.run_pure]
theorem exec_extract {x:Operand} {i:Nat} {vs:Array Value} {v:Value} (ho:o.op=.extract x i) (hx:ev x=.tuple vs) (hi:vs[i]?=some v):(execOp ev o).run Tryd.prog W=.ok (.value v) W:=by
 simp only [execOp,ho,hx,Sem.run_bind,Instr.extract,hi,Result.andThen_ok,Sem.run_pure]
theorem exec_assign {x:Operand} {v:Value} (ho:o.op=.assign x) (hx:ev x=v):(execOp ev o).run Tryd.prog W=.ok (.value v) W:=by
 simp only [execOp,ho,hx,Sem.run_pure]
theorem plain_val {ops:Array Oper} {l:List Nat} {i:Nat} {Q:Exit→Act→World→Prop} {ρ:Env} {a:Act} {v:Value} {d:Option Tmp} (ho:ops[i]?=some o) (hg:o.guard=none) (hd:o.dst=d) (hr:(execOp (renA ρ a).eval o).run Tryd.prog W=.ok (.value v) W') (hv:bnd 0 v) (hw:wpOps Tryd.prog ops Q l (renA ρ (a.put d v)) W'):wpOps Tryd.prog ops Q (i::l) (renA ρ a) W:=by
 refine wpOps_value ho hg hr ?_
 rw [hd,put_free hv]
 exact hw
end
theorem tx_use {o:Oper} {ops:Array Oper} {l:List Nat} {i:Nat} {Q:Exit→Act→World→Prop} {ρ:Env} {a:Act} {W:World} {H H':Hp} {v:Value} {d:Option Tmp} (ho:ops[i]?=some o) (hg:o.guard=none) (hd:o.dst=d) (ht:TX Tryd.prog o a.eval H v H') {xs:List Operand} (hxs:o.op.operands.toList=xs) (hk:∀ x∈xs,okOp Tryd.prog.globals.size x) (hba:bndA H.n a) (hok:HOK Tryd.prog.globals.size H ρ W)
 (hw:∀ ρ' W',HOK Tryd.prog.globals.size H' ρ' W'→Ext H H' ρ ρ' W W'→bndA H'.n (a.put d v)→wpOps Tryd.prog ops Q l (renA ρ' (a.put d v)) W'):wpOps Tryd.prog ops Q (i::l) (renA ρ a) W:=by
 refine wpOps_run ho hg (ht (fun x hx=>eval_bnd hok.gn hba x (hk x (by rw [← hxs];simpa using hx))) ρ W hok (renA ρ a) _ Q (fun x hx=>eval_ren hok.glob a x (hk x (by rw [← hxs];simpa using hx))) fun ρ' W' hv hok' hE=>?_)
 have he:(renA ρ a).put o.dst (ren ρ' v)=renA ρ' (a.put d v):=by rw [put_ren,renA_agree hE.agree hba,hd]
 rw [he]
 exact hw ρ' W' hok' hE (put_bnd (bndA_mono hE.mono hba) _ hv)
abbrev loopF (bb it:Nat) (r:Int):List (Nat × Value):=[(18,.pointer (some ⟨it,0,none⟩)),(1,.int .i64 r),(0,.pointer (some ⟨bb,0,none⟩))]
noncomputable def chgBody:Code:=match Tryd.f73.body with
 | some (.seq _ (.seq (.seq _ (.block _ (.loop b))) _))=>b
 | _=>.skip
noncomputable def chgTail:Code:=match chgBody with
 | .seq _ (.seq _ (.block _ (.seq _ b)))=>b
 | _=>.skip
def RgA (B:Hp) (ρ0:Env) (W0:World) (bb mb it:Nat) (r:Int) (V:Value) (m0:MapC) (left:Nat→Prop) (A:Act) (W:World):Prop :=
 ∃ a ρ H m seen c0,A=renA ρ a∧bndA H.n a∧Agr ⟨loopF bb it r,71⟩ a∧RgI B ρ0 W0 bb mb it r V m0 (fun b=>seen.contains b=true) H ρ W m seen c0∧left (leftOf m.es seen).size
theorem leftOf_sub {es es':Array MapEntry} (h:es'.toList.Sublist es.toList) (seen:Array Nat):(leftOf es' seen).size≤(leftOf es seen).size:=by
 have key:∀ a:Array MapEntry,(leftOf a seen).size=(a.toList.filter fun e=>!seen.contains e.born).length:=fun a=>by
  unfold leftOf
  rw [← Array.length_toList]
  simp
 rw [key,key]
 exact (h.filter _).length_le
def strike (m:MapC) (r k:Int) (a:ArgS):MapC:=if a.reg=r then m.del k else m
set_option maxRecDepth 100000 in
theorem chg_tail (H:Hp) (sH:Sat Tryd.prog H) (bb mb it n5:Nat) (r k:Int) (a:ArgS) (V:Value) (m:MapC) (hb:H.m bb=some ⟨⟨[.map (some mb),V]⟩,98⟩) (hm:H.m mb=some ⟨⟨[]⟩,mapE m⟩) (hmr:rwM≤mb) (hs0:m.s=0) (h5:H.m n5=some ⟨⟨argC a⟩,46⟩) :
 W Tryd.prog chgTail ⟨(4,.int .i64 k)::(5,.pointer (some ⟨n5,0,none⟩))::loopF bb it r,71⟩ (SH.of H) (fun e f' h'=>e=.normal∧f'.nt=71∧AllV f'.l (loopF bb it r)∧∀ B',Absb (P:=Tryd.prog) h' B'→B'.n=H.n∧B'.m mb=some ⟨⟨[]⟩,mapE (strike m r k a)⟩∧∀ i b,H.m i=some b→i≠mb→B'.m i=some b):=by
 have h5n:=sH.dom _ _ h5
 have hbn:=sH.dom _ _ hb
 have hmn:=sH.dom _ _ hm
 unfold chgTail chgBody
 conv=>arg 2;whnf
 unfold strike
 by_cases hr:a.reg=r
 ·rw [if_pos hr]
  repeat (first|((with_reducible apply RS.load1B);(iterate 3 exact rfl);first|exact h5;exact h5n;exact rfl|exact hb;exact hbn;exact rfl)|((with_reducible apply RS.delete);(iterate 4 exact rfl);exact hm;exact hmn;exact hmr;exact hs0)|refine Y29 ?_|refine Y3 ?_|refine Y0 ?_|refine Y4v ?_|refine Y1 ?_|refine Y5 ?_)
  refine ⟨rfl,rfl,by (repeat' (first|exact trivial|exact rfl|apply And.intro));done,fun B' x=>⟨x.n,x.up _ _ ?_,fun i b hi hn=>x.up _ _ ?_⟩⟩
  ·show (if mb=mb then some _ else H.m mb)=_
   rw [if_pos rfl]
  ·show (if i=mb then some _ else H.m i)=_
   rw [if_neg hn];exact hi
 ·rw [if_neg hr]
  repeat (first|((with_reducible apply RS.load1B);(iterate 3 exact rfl);exact h5;exact h5n;exact rfl)|refine Y1a ?_|refine Y2 ?_|refine Y0 ?_|refine Y2k ?_|refine Y1 ?_|refine Y6 ?_)
  exact ⟨rfl,rfl,by (repeat' (first|exact trivial|exact rfl|apply And.intro));done,fun B' x=>⟨x.n,x.up _ _ hm,fun i b hi hn=>x.up _ _ hi⟩⟩
theorem strike_ok {m:MapC} (ok:MOK m) {r:Int} {row:MRow} (hr:row∈m.rows) {a:ArgS} (ha:row.2=rowM (keyR row) a):MOK (strike m r (keyR row) a)∧(strike m r (keyR row) a).clock=m.clock∧(strike m r (keyR row) a).rows.filter (keepR r)=m.rows.filter (keepR r)∧(strike m r (keyR row) a).rows.Sublist m.rows∧∀ x∈(strike m r (keyR row) a).rows,x.1=row.1→keepR r x=true:=by
 have hkr:keepR r row=decide (a.reg≠r):=by unfold keepR;rw [ha];rfl
 have huniq:∀ x∈m.rows,x.1=row.1→x=row:=fun x hx e=>by
  obtain ⟨i,hi⟩:=List.getElem?_of_mem hx
  obtain ⟨j,hj⟩:=List.getElem?_of_mem hr
  have h1:(m.rows.map (·.1))[i]?=some x.1:=by rw [List.getElem?_map,hi];rfl
  have h2:(m.rows.map (·.1))[j]?=some x.1:=by rw [List.getElem?_map,hj,e];rfl
  have:i=j:=nodup_idx ok.nod h1 h2
  rw [this,hj] at hi
  injection hi with hi
  exact hi.symm
 unfold strike
 by_cases h:a.reg=r
 ·rw [if_pos h]
  obtain ⟨j,h1,h2⟩:=findR_mem (i:=0) hr rfl ok.nodk
  have hd:m.del (keyR row)={ m with rows:=m.rows.eraseIdx j }:=by
   unfold MapC.del
   rw [h1];simp
  refine ⟨ok.del _,by rw [hd],?_,by rw [hd];exact List.eraseIdx_sublist _ _,fun x hx e=>?_⟩
  ·rw [hd]
   show (m.rows.eraseIdx j).filter (keepR r)=_
   have hjl:=(List.getElem?_eq_some_iff.1 h2).1
   rw [List.eraseIdx_eq_take_drop_succ]
   conv=>rhs;rw [← List.take_append_drop j m.rows,List.drop_eq_getElem_cons hjl]
   rw [List.filter_append,List.filter_append,List.filter_cons]
   have:m.rows[j]=row:=(List.getElem?_eq_some_iff.1 h2).2
   rw [this,hkr,if_neg (by simp [h])]
  ·rw [hd] at hx
   have hx:x∈m.rows.eraseIdx j:=hx
   have e1:=huniq x ((List.eraseIdx_sublist _ _).subset hx) e
   subst e1
   exfalso
   rw [List.mem_eraseIdx_iff_getElem?] at hx
   obtain ⟨i,hne,hi⟩:=hx
   have g1:(m.rows.map (·.1))[i]?=some x.1:=by rw [List.getElem?_map,hi];rfl
   have g2:(m.rows.map (·.1))[j]?=some x.1:=by rw [List.getElem?_map,h2];rfl
   exact hne (nodup_idx ok.nod g1 g2)
 ·rw [if_neg h]
  refine ⟨ok,rfl,rfl,List.Sublist.refl _,fun x hx e=>?_⟩
  rw [huniq x hx e,hkr];simpa using h
set_option maxRecDepth 100000 in
theorem chg_round {B:Hp} {ρ0:Env} {W0:World} {bb mb it:Nat} {r:Int} {V:Value} {m0:MapC} (hmr:rwM≤mb) (cnt:Nat) {A:Act} {W:World} (h:RgA B ρ0 W0 bb mb it r V m0 (fun n=>n=cnt) A W) :
 chgBody.wp Tryd.prog (fun e A' W'=>(e=.exit 0∧RgA B ρ0 W0 bb mb it r V m0 (fun n=>n=0) A' W')∨(e=.normal∧RgA B ρ0 W0 bb mb it r V m0 (fun n=>n < cnt) A' W')) A W:=by
 obtain ⟨a,ρ,H,m,seen,c0,rfl,hba,hag,hg,hl⟩:=h
 have hgl:=hg.hok.glob
 have hs0:=hg.ok.s0
 have hmw:=((hg.hok.fits _ _ hg.hm).map hmr).1
 have hesm:∀ x∈m.es.toList,∃ row∈m.rows,x=rowE 0 row:=fun x hx=>by
  rw [es_list,hs0] at hx
  obtain ⟨row,h1,h2⟩:=List.mem_map.1 hx
  exact ⟨row,h1,h2.symm⟩
 have hold:∀ x∈m.es.toList,x.born < m0.clock:=fun x hx=>by
  obtain ⟨row,h1,rfl⟩:=hesm x hx
  have:=hg.ok.low row h1
  rw [← hg.clk];exact this
 have hev:∀ (ρ:Env) (a:Act) (f:Fr),ρ.sh it=0→(∀ g,g < Tryd.prog.globals.size→ρ.loc g=g∧ρ.sh g=0)→Agr f a→f.ev (.tmp 18)=some (.pointer (some ⟨it,0,none⟩))→(renA ρ a).eval (.tmp 18)=.pointer (some ⟨ρ.loc it,0,none⟩):=fun ρ a f h1 h2 h3 h4=>by
  rw [ev_at h2 h3 (x:=.tmp 18) h4 trivial];simp [renAddr,h1]
 have hev0:=hev ρ a _ hg.sh hgl hag rfl
 unfold chgBody
 conv=>arg 2;whnf
 refine wp_seq (wp_region ?_)
 show wpOps _ _ _ [0,1] _ _
 rcases run_next_at (P:=Tryd.prog) W 0 (ρ.loc it) (ρ.loc mb) m0.clock c0 seen m.es m.clock hg.iter hmw hold hg.c0 with ⟨h0,hrun⟩|⟨e,he,w1,hw1,hrun⟩
 ·refine plain_val (d:=some 19) (v:=.tuple #[.bool false]) rfl rfl rfl (exec_next rfl hev0 hrun) (by simp) ?_
  have hag1:=hag.put (d:=some 19) rfl (.tuple #[.bool false])
  refine plain_val (d:=some 20) (v:=.bool false) rfl rfl rfl (exec_extract (vs:=#[.bool false]) rfl ((ev_at hgl hag1 (x:=.tmp 19) rfl trivial).trans (by simp)) rfl) (by simp) ?_
  have hag2:=hag1.put (d:=some 20) rfl (.bool false)
  show Code.wp _ _ _ _ _
  refine wp_seq (wp_cond (t:=false) ((ev_at hgl hag2 (x:=.tmp 20) rfl trivial).trans (by simp)) (wp_exit ?_))
  refine .inl ⟨rfl,_,ρ,H,m,seen,c0,rfl,?_,?_,hg,h0⟩
  ·exact put_bnd (put_bnd hba _ (by simp)) _ (by simp)
  ·exact hag2.weak rfl fun t v hv=>(show AllV _ _ by (repeat' (first|exact trivial|exact rfl|apply And.intro));done).get t v hv
 ·obtain ⟨hem,hes⟩:=mem_left he
  obtain ⟨row,hrow,rfl⟩:=hesm e hem
  obtain ⟨k,x,hkx,hfk,hxo⟩:=hg.ok.shape row hrow
  have hkk:keyR row=k:=by unfold keyR;rw [hkx];rfl
  have hkey:(rowE 0 row).key=.int .i64 k:=by rw [rowE_key0,hkk]
  have hval:(rowE 0 row).val=.agg ⟨argC x⟩:=by show (mapKV 0 row.2).2=_;rw [hkx];rfl
  rw [hkey,hval] at hrun
  have hg1:=hg.turn hw1 row.1
  have hpl:bnd 0 (.tuple #[.bool true,.int .i64 k,.agg ⟨argC x⟩]):=by simp [argC]
  refine plain_val (d:=some 19) (v:=.tuple #[.bool true,.int .i64 k,.agg ⟨argC x⟩]) rfl rfl rfl (exec_next rfl hev0 hrun) hpl ?_
  have hag1:=hag.put (d:=some 19) rfl (.tuple #[.bool true,.int .i64 k,.agg ⟨argC x⟩])
  refine plain_val (d:=some 20) (v:=.bool true) rfl rfl rfl (exec_extract rfl ((ev_at hgl hag1 (x:=.tmp 19) rfl trivial).trans (ren_free ρ _ hpl)) rfl) (by simp) ?_
  have hag2:=hag1.put (d:=some 20) rfl (.bool true)
  show Code.wp _ _ _ _ _
  refine wp_seq (wp_cond (t:=true) ((ev_at hgl hag2 (x:=.tmp 20) rfl trivial).trans (by simp)) (wp_skip ?_))
  show Code.wp _ _ _ _ _
  refine wp_block (wp_seq (wp_region ?_))
  show wpOps _ _ _ [0,1,2,3,4,5] _ _
  have hmw1:=((hg1.hok.fits _ _ hg1.hm).map hmr).1
  have hen:=run_entry_at (P:=Tryd.prog) _ (ρ.loc it) (ρ.loc mb) m0.clock seen m.es m.clock (rowE 0 row) hg1.iter hmw1 hem (by rw [es_list,hs0,List.map_map];exact hg.ok.nod)
  rw [hkey,hval] at hen
  have hev2:=hev ρ _ _ hg.sh hgl hag2 rfl
  have hpe:bnd 0 (.tuple #[.int .i64 k,.agg ⟨argC x⟩]):=by simp [argC]
  refine plain_val (d:=some 21) (v:=.tuple #[.int .i64 k,.agg ⟨argC x⟩]) rfl rfl rfl (exec_entry rfl hev2 hen) hpe ?_
  have hag3:=hag2.put (d:=some 21) rfl (.tuple #[.int .i64 k,.agg ⟨argC x⟩])
  refine plain_val (d:=some 22) (v:=.int .i64 k) rfl rfl rfl (exec_extract rfl ((ev_at hgl hag3 (x:=.tmp 21) rfl trivial).trans (ren_free ρ _ hpe)) rfl) (by simp) ?_
  have hag4:=hag3.put (d:=some 22) rfl (.int .i64 k)
  refine plain_val (d:=some 23) (v:=.agg ⟨argC x⟩) rfl rfl rfl (exec_extract rfl ((ev_at hgl hag4 (x:=.tmp 21) rfl trivial).trans (ren_free ρ _ hpe)) rfl) (by simp [argC]) ?_
  have hag5:=hag4.put (d:=some 23) rfl (.agg ⟨argC x⟩)
  have hx0:bnd 0 (.agg ⟨argC x⟩):=by simp [argC]
  have hup:∀ {v:Value},bnd 0 v→bnd H.n v:=fun h=>bnd_mono (Nat.zero_le _) _ h
  have hba5:=put_bnd (put_bnd (put_bnd (put_bnd (put_bnd hba (some 19) (hup hpl)) (some 20) (v:=.bool true) (by simp)) (some 21) (hup hpe)) (some 22) (v:=.int .i64 k) (by simp)) (some 23) (hup hx0)
  generalize hA5:((((a.put (some 19) (.tuple #[.bool true,.int .i64 k,.agg ⟨argC x⟩])).put (some 20) (.bool true)).put (some 21) (.tuple #[.int .i64 k,.agg ⟨argC x⟩])).put (some 22) (.int .i64 k)).put (some 23) (.agg ⟨argC x⟩)=a5 at hag5 hba5 ⊢
  refine tx_use (d:=some 5) (v:=.pointer (some ⟨H.n,0,none⟩)) (H':=H.push ⟨⟨cellsV (.agg ⟨[.int .i64 0,.int .i64 0]⟩)⟩,46⟩) rfl rfl rfl (by exact tx_alloc (t:=46) rfl) rfl (fun y hy=>by cases hy) hba5 hg1.hok fun ρ2 W2 hok2 hE2 hba6=>?_
  have hag6:=hag5.put (d:=some 5) rfl (.pointer (some ⟨H.n,0,none⟩))
  refine plain_val (d:=some 4) (v:=.int .i64 k) rfl rfl rfl (exec_assign rfl ((ev_at hok2.glob hag6 (x:=.tmp 22) rfl trivial).trans (by simp))) (by simp) ?_
  have hag7:=hag6.put (d:=some 4) rfl (.int .i64 k)
  have hba7:=put_bnd hba6 (some 4) (v:=.int .i64 k) (by simp)
  have hnw:rwM≤H.n:=hg.hok.gle
  have hpn:=push_new H ⟨⟨cellsV (.agg ⟨[.int .i64 0,.int .i64 0]⟩)⟩,46⟩
  refine tx_use (d:=none) (v:=undef) (H':=(H.push ⟨⟨cellsV (.agg ⟨[.int .i64 0,.int .i64 0]⟩)⟩,46⟩).set H.n ⟨⟨argC x⟩,46⟩) rfl rfl rfl (by exact tx_store (t:=46) (blk:=H.n) (off:=0) (v:=.agg ⟨argC x⟩) rfl (hag7.ev (x:=.tmp 5) rfl) (hag7.ev (x:=.tmp 23) rfl) hpn hnw (Nat.le_of_ble_eq_true rfl) rfl rfl) rfl (fun y hy=>by rcases List.mem_cons.1 hy with rfl|hy;trivial;rcases List.mem_cons.1 hy with rfl|hy;trivial;cases hy) hba7 hok2 fun ρ3 W3 hok3 hE3 hba8=>?_
  have hag8:=hag7.put (d:=none) rfl undef
  generalize hA8:(((a5.put (some 5) (.pointer (some ⟨H.n,0,none⟩))).put (some 4) (.int .i64 k)).put none undef)=a8 at hag8 hba8 ⊢
  have hne:∀ i b,H.m i=some b→i≠H.n:=fun i b hb e=>by have:=hg.hok.lt i b hb;omega
  obtain ⟨H3,hH3⟩:∃ H3,(H.push ⟨⟨cellsV (.agg ⟨[.int .i64 0,.int .i64 0]⟩)⟩,46⟩).set H.n ⟨⟨argC x⟩,46⟩=H3:=⟨_,rfl⟩
  have hm3:∀ j,H3.m j=if j=H.n then some ⟨⟨argC x⟩,46⟩ else H.m j:=fun j=>by
   rw [← hH3]
   show (if j=H.n then some _ else (if j=H.n then some _ else H.m j))=_
   by_cases hj:j=H.n
   ·rw [if_pos hj,if_pos hj]
   ·rw [if_neg hj,if_neg hj,if_neg hj]
  rw [hH3] at hok3 hE3 hba8
  have hkeep:∀ i b,H.m i=some b→H3.m i=some b:=fun i b hb=>by rw [hm3,if_neg (hne i b hb)];exact hb
  have hg3:=hg1.step (m':=m) (D':=fun b=>seen.contains b=true) hok3 (hE2.trans hE3) (by rw [hkeep _ _ hg.hb,hg.hb]) (hkeep _ _ hg.hm) (fun i b hb _=>hkeep i b hb) hg.ok rfl hg1.done rfl
  show Code.wp _ _ _ _ _
  have sH3:Sat Tryd.prog H3:=⟨ρ3,W3,hok3⟩
  have hden:=sH3.den
  have ht:=WN.ofW (chg_tail H3 sH3 bb mb it H.n r k x V m hg3.hb hg3.hm hmr hs0 (by rw [hm3,if_pos rfl])) a8 ρ3 W3 sH3.wf (by rw [hden];exact hok3) (by rw [hden];exact hba8) (hag8.weak rfl fun t v hv=>(show AllV _ _ by (repeat' (first|exact trivial|exact rfl|apply And.intro));done).get t v hv)
  rw [hden] at ht
  refine wp_mono (show Code.wp Tryd.prog _ _ _ _ from ht) ?_
  rintro e A W4 ⟨f4,h4,a4,ρ4,⟨rfl,hnt4,hF4,hB4⟩,w4,rfl,hba4,hag4',hok4,hE4⟩
  obtain ⟨g1,g2,g3⟩:=hB4 _ (Absb.of w4 ⟨ρ4,W4,hok4⟩)
  obtain ⟨k1,k2,k3,k4,k5⟩:=strike_ok hg.ok hrow (r:=r) (a:=x) (by rw [hkk];exact hkx)
  rw [hkk] at k1 k2 k3 k4 k5
  have hnbm:bb≠mb:=fun e=>by
   have h1:=hg3.hb
   rw [e,hg3.hm] at h1
   injection h1 with h1
   injection h1 with _ h1
   exact absurd (mapE_ge m) (by rw [h1];decide)
  have hg4:=hg3.step (m':=strike m r k x) (D':=fun b=>(seen.push row.1).contains b=true) hok4 hE4 (by rw [g3 _ _ hg3.hb hnbm,hg3.hb]) g2 g3 k1 k2 (fun y hy hs=>by
   rw [contains_push] at hs
   by_cases h1:seen.contains y.1=true
   ·exact hg.done y (k4.subset hy) h1
   ·have h1:seen.contains y.1=false:=by simpa using h1
    rw [h1] at hs
    exact k5 y hy (by simpa using hs)) k3
  refine .inr ⟨rfl,a4,ρ4,h4.den,strike m r k x,seen.push row.1,m.clock,rfl,hba4,hag4'.weak (by simp [hnt4]) fun t v hv=>hF4.get t v hv,hg4,?_⟩
  have h1:=left_shrinks m.es seen (rowE 0 row) he
  have h2:((strike m r k x).es).toList.Sublist m.es.toList:=by
   rw [es_list,es_list,k1.s0,hs0]
   exact k4.map _
  have h3:=leftOf_sub h2 (seen.push row.1)
  have h4:(leftOf m.es (seen.push row.1)).size < cnt:=by rw [← hl];exact h1
  omega
theorem exec_range {o:Oper} {ev:Operand→Value} {W W':World} {x:Operand} {t:TypeId} {u v:Value} (ho:o.op=.range t x) (hx:ev x=u) (hr:(Instr.range t u).run Tryd.prog W=.ok v W'):(execOp ev o).run Tryd.prog W=.ok (.value v) W':=by
 simp only [execOp,ho,hx,Sem.run_bind,hr,Result.andThen_ok,Sem.run_pure]
theorem tx_moveV {o:Oper} {ev:Operand→Value} {h:Hp} {x:Operand} {v:Value} (ho:o.op=.move x) (hx:ev x=v):TX Tryd.prog o ev h v h:=hx ▸ TX.move ho
theorem tx_nilV {o:Oper} {ev:Operand→Value} {h:Hp} {x:Operand} {a:Addr} (ho:o.op=.nilCheck x) (hx:ev x=.pointer (some a)):TX Tryd.prog o ev h (.pointer (some a)) h:=hx ▸ TX.nilCheck ho hx
noncomputable def chgRange:Code:=match Tryd.f73.body with
 | some (.seq _ (.seq c _))=>c
 | _=>.skip
abbrev chgF (bb:Nat) (r:Int):List (Nat × Value):=[(1,.int .i64 r),(0,.pointer (some ⟨bb,0,none⟩))]
def RangeK (B:Hp) (bb mb:Nat) (r:Int) (m:MapC):Exit→Fr→SH→Prop:=fun e f' h'=>e=.normal∧f'.nt=71∧AllV f'.l (chgF bb r)∧∀ B',Absb (P:=Tryd.prog) h' B'→B.n≤B'.n∧B'.m mb=some ⟨⟨[]⟩,mapE (dropM m r)⟩∧∀ i b,B.m i=some b→i≠mb→B'.m i=some b
theorem chg_rounds {B:Hp} {ρ0:Env} {W0:World} {bb mb it:Nat} {r:Int} {V:Value} {m0:MapC} (hmr:rwM≤mb):∀ (n cnt:Nat) (A:Act) (W:World),cnt < n→RgA B ρ0 W0 bb mb it r V m0 (fun k=>k=cnt) A W →
 Code.rounds Tryd.prog chgBody (fun e A' W'=>e=.exit 0∧RgA B ρ0 W0 bb mb it r V m0 (fun k=>k=0) A' W') n A W:=by
 intro n
 induction n with
 | zero=>intro cnt A W h;omega
 | succ n ih =>
  intro cnt A W hn h
  rw [rounds_succ]
  refine wp_mono (chg_round hmr cnt h) ?_
  rintro e A' W' (⟨rfl,h1⟩|⟨rfl,a,ρ,H,m,seen,c0,h1,h2,h3,h4,h5⟩)
  ·exact ⟨rfl,h1⟩
  ·exact ih _ _ _ (by omega) ⟨a,ρ,H,m,seen,c0,h1,h2,h3,h4,rfl⟩
set_option maxRecDepth 100000 in
theorem chg_range (B:Hp) (bb mb:Nat) (r:Int) (V:Value) (m:MapC) (hb:B.m bb=some ⟨⟨[.map (some mb),V]⟩,98⟩) (hm:B.m mb=some ⟨⟨[]⟩,mapE m⟩) (hmr:rwM≤mb) (ok:MOK m):∀ (a:Act) (ρ:Env) (W:World),HOK Tryd.prog.globals.size B ρ W→bndA B.n a→Agr ⟨chgF bb r,71⟩ a →
 chgRange.wp Tryd.prog (PostN Tryd.prog B ρ W (RangeK B bb mb r m)) (renA ρ a) W:=by
 intro a ρ0 W0 hok hba hag
 unfold chgRange
 conv=>arg 2;whnf
 refine wp_seq (wp_region ?_)
 show wpOps _ _ _ [0,1,2,3,4] _ _
 have one:∀ t:Nat,∀ y∈[Operand.tmp t],okOp Tryd.prog.globals.size y:=fun t y hy=>by
  rcases List.mem_cons.1 hy with rfl|hy
  ·trivial
  ·cases hy
 refine tx_use (d:=some 14) (v:=.pointer (some ⟨bb,0,none⟩)) (H':=B) rfl rfl rfl (by exact tx_moveV rfl (hag.ev (x:=.tmp 0) rfl)) rfl (one 0) hba hok fun ρ1 W1 hok1 hE1 hba1=>?_
 have hag1:=hag.put (d:=some 14) rfl (.pointer (some ⟨bb,0,none⟩))
 refine tx_use (d:=some 15) (v:=.pointer (some ⟨bb,0,none⟩)) (H':=B) rfl rfl rfl (by exact tx_nilV rfl (hag1.ev (x:=.tmp 14) rfl)) rfl (one 14) hba1 hok1 fun ρ2 W2 hok2 hE2 hba2=>?_
 have hag2:=hag1.put (d:=some 15) rfl (.pointer (some ⟨bb,0,none⟩))
 refine tx_use (d:=some 16) (v:=.pointer (some ⟨bb,0+0,none⟩)) (H':=B) rfl rfl rfl (by exact tx_fieldAddr rfl (hag2.ev (x:=.tmp 15) rfl)) rfl (one 15) hba2 hok2 fun ρ3 W3 hok3 hE3 hba3=>?_
 have hag3:=hag2.put (d:=some 16) rfl (.pointer (some ⟨bb,0+0,none⟩))
 refine tx_use (d:=some 17) (v:=.map (some mb)) (H':=B) rfl rfl rfl (by exact tx_load1 rfl (hag3.ev (x:=.tmp 16) rfl) hb rfl) rfl (one 16) hba3 hok3 fun ρ4 W4 hok4 hE4 hba4=>?_
 have hag4:=hag3.put (d:=some 17) rfl (.map (some mb))
 generalize hA4:((((a.put (some 14) (.pointer (some ⟨bb,0,none⟩))).put (some 15) (.pointer (some ⟨bb,0,none⟩))).put (some 16) (.pointer (some ⟨bb,0+0,none⟩))).put (some 17) (.map (some mb)))=a4 at hag4 hba4 ⊢
 have hE:=((hE1.trans hE2).trans hE3).trans hE4
 have hmw:=((hok4.fits _ _ hm).map hmr).1
 have hrun:=run_range_map (P:=Tryd.prog) W4 95 3 46 (ρ4.loc mb) m.es m.clock (by kernel_rfl) hmw
 obtain ⟨hok5,hE5⟩:=hok4.newO none 0 (.mapIter (some (ρ4.loc mb)) m.clock #[] m.clock) (fun b h=>by cases h) (W4.alloc (.mapIter (some (ρ4.loc mb)) m.clock #[] m.clock)) rfl rfl rfl rfl
 refine wpOps_value rfl rfl (exec_range rfl ((ev_at hok4.glob hag4 (x:=.tmp 17) rfl trivial).trans (by simp)) hrun) ?_
 have hmn:=hok4.lt _ _ hm
 have hbn:=hok4.lt _ _ hb
 have hag5:=hag4.put (d:=some 18) rfl (.pointer (some ⟨B.n,0,none⟩))
 have hba5:bndA (B.n+1) (a4.put (some 18) (.pointer (some ⟨B.n,0,none⟩))):=put_bnd (bndA_mono (Nat.le_succ _) hba4) _ (by simp)
 have he:(renA ρ4 a4).put (some 18) (.pointer (some ⟨W4.heap.size,0,none⟩))=renA (ρ4.add B.n W4.heap.size 0) (a4.put (some 18) (.pointer (some ⟨B.n,0,none⟩))):=by
  rw [put_ren,renA_agree (ρ4.add_agree _ _ _) hba4]
  simp [renAddr,Env.add]
 show wpOps _ _ _ [] ((renA ρ4 a4).put (some 18) _) _
 rw [he]
 show Code.wp Tryd.prog (.block 0 (.loop chgBody)) _ _ _
 have hst:RgI B ρ0 W0 bb mb B.n r V m (fun b=>(#[]:Array Nat).contains b=true) ⟨fun j=>if j=B.n then none else B.m j,B.n+1⟩ (ρ4.add B.n W4.heap.size 0) (W4.alloc (.mapIter (some (ρ4.loc mb)) m.clock #[] m.clock)) m #[] m.clock :=
 { hok:=hok5,ext:=hE.trans hE5,lo:=Nat.le_refl _,hi:=Nat.lt_succ_self _
   hb:=by show (if bb=B.n then none else B.m bb)=_;rw [if_neg (by omega)];exact hb
   hm:=by show (if mb=B.n then none else B.m mb)=_;rw [if_neg (by omega)];exact hm
   keep:=fun i b h1 _=>by have:=hok4.lt _ _ h1;show (if i=B.n then none else B.m i)=_;rw [if_neg (by omega)];exact h1
   iter:=by
    rw [show (ρ4.add B.n W4.heap.size 0).loc B.n=W4.heap.size by simp [Env.add],heap_alloc_new,(ρ4.add_agree B.n W4.heap.size 0 mb hmn).1]
   new:=by rw [show (ρ4.add B.n W4.heap.size 0).loc B.n=W4.heap.size by simp [Env.add]];exact hE.size
   sh:=by simp [Env.add]
   ok:=ok,clk:=rfl,c0:=Nat.le_refl _
   done:=fun row _ h=>by simp at h
   filt:=rfl }
 refine wp_block (wp_mono (wp_loop_rounds _ (chg_rounds hmr _ _ _ _ (Nat.lt_succ_self _) ⟨_,_,_,_,_,_,rfl,hba5,hag5.weak rfl fun t v hv=>(show AllV _ _ by (repeat' (first|exact trivial|exact rfl|apply And.intro));done).get t v hv,hst,rfl⟩)) ?_)
 rintro e A W6 ⟨rfl,a6,ρ6,H6,m6,seen6,c6,rfl,hba6,hag6,hg6,h0⟩
 show PostN _ _ _ _ _ .normal _ _
 have s6:Sat Tryd.prog H6:=⟨ρ6,W6,hg6.hok⟩
 have hden:=s6.den
 have hall:m6.rows=m.rows.filter (keepR r):=by
  rw [← hg6.filt]
  symm
  rw [List.filter_eq_self]
  intro row hr
  refine hg6.done row hr ?_
  have:=all_seen m6.es seen6 h0 (rowE 0 row) (by rw [es_list,hg6.ok.s0];exact List.mem_map.2 ⟨row,hr,rfl⟩)
  exact this
 have hm6:m6=dropM m r:=by
  obtain ⟨s,c,rows⟩:=m6
  have h1:=hg6.ok.s0
  have h2:=hg6.clk
  simp only at hall h1 h2
  unfold dropM
  rw [hall,h1,h2,← ok.s0]
  rfl
 refine ⟨⟨loopF bb B.n r,71⟩,SH.of H6,a6,ρ6,⟨rfl,rfl,by (repeat' (first|exact trivial|exact rfl|apply And.intro));done,fun B' x=>⟨?_,?_,fun i b h1 h2=>?_⟩⟩,s6.wf,rfl,by rw [hden];exact hba6,hag6,by rw [hden];exact hg6.hok,by rw [hden];exact hg6.ext⟩
 ·exact Nat.le_trans hg6.ext.mono x.le
 ·rw [← hm6];exact x.up _ _ hg6.hm
 ·exact x.up _ _ (hg6.keep i b h1 h2)
noncomputable def chgRest:Code:=match Tryd.f73.body with
 | some (.seq _ (.seq _ c))=>c
 | _=>.skip
def keepV (r:Int) (v:KnV):Bool:=keepW r v.k
theorem keepV_iff (r:Int) (v:KnV):keepV r v=true↔v.k.2≠r∧v.k.1.a.reg≠r∧v.k.1.b.reg≠r:=by
 unfold keepV keepW
 simp only [Bool.and_eq_true,decide_eq_true_eq]
 exact ⟨fun h=>⟨h.1.1,h.1.2,h.2⟩,fun h=>⟨⟨h.1,h.2.1⟩,h.2.2⟩⟩
set_option maxRecDepth 100000 in
theorem chg_rest (B2:Hp) (s2:Sat Tryd.prog B2) (bb mb:Nat) (r:Int) (r0:Nat) (l:List KnV) (hB0:B2.m bb=some ⟨⟨[.map (some mb),rowVl 13 r0 (rowK l)]⟩,98⟩) (hR:l≠[]→B2.m r0=some ⟨⟨(rowK l).flatten⟩,130⟩) (hbr:rwM≤bb) (hll:l.length≤1000000000) :
 W Tryd.prog chgRest ⟨chgF bb r,71⟩ (SH.of B2) (endsK Tryd.prog Tryd.f73 fun vs h'=>vs=[]∧∃ r',∀ B',Absb (P:=Tryd.prog) h' B'→B2.n≤B'.n∧B'.m bb=some ⟨⟨[.map (some mb),rowVl 13 r' (rowK (l.filter (keepV r)))]⟩,98⟩ ∧
  (l.filter (keepV r)≠[]→B2.n≤r'∧B'.m r'=some ⟨⟨(rowK (l.filter (keepV r))).flatten⟩,130⟩)∧∀ i b,B2.m i=some b→i≠bb→B'.m i=some b):=by
 have hd:=s2.dom
 have hB:=hB0
 have hBn:=hd _ _ hB
 rw [rowVl_eq] at hB
 have hrl:(rowK l).length=l.length:=by simp [rowK]
 unfold chgRest
 conv=>arg 2;whnf
 unfold chgF
 ((with_reducible apply W.seq);repeat (first|refine Y14 ?_|refine Y0 ?_|refine Y1 ?_|refine Y12 ?_))
 ((with_reducible apply W.seq);repeat (fail))
 ((with_reducible apply W.seq);repeat (first|refine Y3x ?_|refine Y21 ?_|refine Y0 ?_|refine Y1 ?_|refine Y47 ?_))
 refine W.loopN (X:=Nat × Nat) (fun x=>[(0,.pointer (some ⟨bb,0,none⟩)),(1,.int .i64 r),(36,.slice (if rowK l=[] then none else some ⟨r0,0,none⟩) l.length (if rowK l=[] then 0 else capOf 13)),(37,.int .i64 (l.length:Int)),(38,.int .i64 (x.1:Int)),(6,rowVl 13 x.2 (rowK ((l.take x.1).filter (keepV r))))])
  (fun x B=>x.1≤l.length∧FilI B2 (keepV r) l x.1 x.2 B) (fun x=>l.length - x.1)
  (fun B' a=>⟨(0,0),by (rw [← hrl];(repeat' (first|exact trivial|exact rfl|apply And.intro));done),⟨Nat.zero_le _,a.up,a.le,fun hn=>by simp at hn⟩⟩) ?_
 rintro ⟨i,r'⟩ B π1 sB ⟨hi,hI⟩
 dsimp only at hi hI ⊢
 by_cases hlt:i < l.length
 ·obtain ⟨v,hv⟩:∃ v,l[i]?=some v:=⟨_,List.getElem?_eq_getElem hlt⟩
  have hne:l≠[]:=by intro e;rw [e] at hlt;exact absurd hlt (Nat.not_lt_zero _)
  have hne2:rowK l≠[]:=fun e=>hne (rowK_nil.1 e)
  have hr:=hI.up _ _ (hR hne)
  have hrn:=sB.dom _ _ hr
  have hle:0+i * 13+13≤(rowK l).flatten.length:=by rw [rowK_flat];omega
  have hft:=filter_take (keepV r) hv
  have hfl:((l.take i).filter (keepV r)).length≤1000000000:=Nat.le_trans (List.length_filter_le _ _) (by rw [List.length_take];omega)
  have hkv:=keepV_iff r v
  rw [if_neg hne2,if_neg hne2]
  by_cases h1:v.k.2=r
  ·rw [if_neg (by rw [hkv];simp [h1]),List.append_nil] at hft
   repeat (first|refine Y2 ?_|refine Y3 ?_|refine Y9 ?_|refine Y2g ?_|refine Y1a ?_|refine Y8 ?_|refine Yb ?_|refine Y7 ?_|refine Y4 ?_|refine Yd ?_|refine Ym ?_|refine Y0 ?_|refine Yg ?_|refine Y1 ?_|refine Y5 ?_|refine Y6 ?_)
   exact roundN_n rfl fun B' a=>⟨(i+1,r'),by (rw [hft];(repeat' (first|exact trivial|exact rfl|apply And.intro));done),⟨hlt,fun j b hb=>a.up _ _ (hI.up _ _ hb),Nat.le_trans hI.le a.le,fun hn=>by rw [hft] at hn ⊢;exact ⟨(hI.row hn).1,a.up _ _ (hI.row hn).2⟩⟩,by omega⟩
  by_cases h2:v.k.1.a.reg=r
  ·rw [if_neg (by rw [hkv];simp [h2]),List.append_nil] at hft
   repeat (first|refine Y2 ?_|refine Y3 ?_|refine Y9 ?_|refine Y2g ?_|refine Y1a ?_|refine Yf ?_|refine Y8 ?_|refine Yb ?_|refine Y7 ?_|refine Y4 ?_|refine Yd ?_|refine Ym ?_|refine Y0 ?_|refine Yg ?_|refine Y1 ?_|refine Y5 ?_|refine Y6 ?_)
   exact roundN_n rfl fun B' a=>⟨(i+1,r'),by (rw [hft];(repeat' (first|exact trivial|exact rfl|apply And.intro));done),⟨hlt,fun j b hb=>a.up _ _ (hI.up _ _ hb),Nat.le_trans hI.le a.le,fun hn=>by rw [hft] at hn ⊢;exact ⟨(hI.row hn).1,a.up _ _ (hI.row hn).2⟩⟩,by omega⟩
  by_cases h3:v.k.1.b.reg=r
  ·rw [if_neg (by rw [hkv];simp [h3]),List.append_nil] at hft
   repeat (first|refine Y2 ?_|refine Y3 ?_|refine Y9 ?_|refine Y2g ?_|refine Y1a ?_|refine Yf ?_|refine Yb ?_|refine Y7 ?_|refine Y4 ?_|refine Yd ?_|refine Y0 ?_|refine Yg ?_|refine Y1 ?_|refine Y5 ?_|refine Y6 ?_)
   exact roundN_n rfl fun B' a=>⟨(i+1,r'),by (rw [hft];(repeat' (first|exact trivial|exact rfl|apply And.intro));done),⟨hlt,fun j b hb=>a.up _ _ (hI.up _ _ hb),Nat.le_trans hI.le a.le,fun hn=>by rw [hft] at hn ⊢;exact ⟨(hI.row hn).1,a.up _ _ (hI.row hn).2⟩⟩,by omega⟩
  rw [if_pos (hkv.2 ⟨h1,h2,h3⟩)] at hft
  repeat (first|refine Y3 ?_|refine Y9 ?_|refine Y2g ?_|((with_reducible apply RS.pushRow (v:=knC v) (L:=rowK ((l.take i).filter (keepV r))));(iterate 6 exact rfl);exact fun Bq hBq=>⟨hBq.loc 1 (by decide:(1:Nat) < 2),fun hn=>(have hn:(l.take i).filter (keepV r)≠[]:=fun e=>hn (by rw [e];rfl);⟨Nat.le_trans s2.rw (hI.row hn).1,hBq.up _ _ (hI.row hn).2⟩)⟩;exact rowK_len _;(iterate 2 exact rfl);(rw [show (rowK ((l.take i).filter (keepV r))).length=_ from List.length_map ..];omega);(rw [show (rowK ((l.take i).filter (keepV r))).length=_ from List.length_map ..];omega);intro B7 hB7 r7 H7 π7 sH7 hr7 hm7 hle7 hoff7)|refine Yn ?_|refine Yc ?_|refine Yf ?_|refine Yb ?_|refine Y7 ?_|refine Ya ?_|refine Y4 ?_|refine Yd ?_|refine Y0 ?_|refine Yg ?_|refine Y1 ?_|refine Y5 ?_)
  have hI7:=hI.push hd hft hB7.up hB7.dom hB7.le hr7 hm7 hle7 hoff7
  exact roundN_n rfl fun B' a=>⟨(i+1,r7),by (rw [hft,← rowK_append];(repeat' (first|exact trivial|exact rfl|apply And.intro));done),⟨hlt,fun j b hb=>a.up _ _ (hI7.up _ _ hb),Nat.le_trans hI7.le a.le,fun hn=>⟨(hI7.row hn).1,a.up _ _ (hI7.row hn).2⟩⟩,by omega⟩
 ·have hil:i=l.length:=by omega
  subst hil
  rw [List.take_length] at *
  have hBb:=hI.up _ _ hB
  have hBbn:=sB.dom _ _ hBb
  rw [rowVl_eq]
  repeat (first|refine Y2 ?_|((with_reducible apply RS.storeB);(iterate 3 exact rfl);exact hBb;exact hBbn;exact hbr;exact Nat.le_of_ble_eq_true rfl;iterate 3 exact rfl)|refine Y29 ?_|refine Y0 ?_|refine Y4m ?_|refine Y1 ?_|refine Y6 ?_|refine Yi ?_)
  refine endsK_normal [] .nil ⟨rfl,r',fun B' a=>⟨Nat.le_trans hI.le a.le,?_,fun hn=>?_,fun j b hb hj=>a.up _ _ ?_⟩⟩
  ·rw [rowVl_eq]
   exact a.up _ _ (by show (if bb=bb then some _ else B.m bb)=_;rw [if_pos rfl];rfl)
  ·have h1:=hI.row (by rw [List.take_length];exact hn)
   rw [List.take_length] at h1
   refine ⟨h1.1,a.up _ _ ?_⟩
   show (if r'=bb then some _ else B.m r')=_
   rw [if_neg (by omega)];exact h1.2
  ·show (if j=bb then some _ else B.m j)=_
   rw [if_neg hj];exact hI.up _ _ hb
def chgH (h:Hp) (bb mb:Nat) (m':MapC) (l':List KnV):Hp :=
 ⟨fun i=>if i=bb then some ⟨⟨[.map (some mb),rowVl 13 h.n (rowK l')]⟩,98⟩ else if i=mb then some ⟨⟨[]⟩,mapE m'⟩ else if i=h.n then (if l'=[] then none else some ⟨⟨(rowK l').flatten⟩,130⟩) else h.m i,h.n+1⟩
theorem rowVl_sub (σ:Nat→Nat) (r:Nat) (L:List (List Value)):sub σ (rowVl 13 r L)=rowVl 13 (σ r) L:=by
 cases L<;>simp [rowVl]
set_option maxRecDepth 100000 in
theorem changed_tf (h:Hp) (N bb mb:Nat) (s:CseS) (r:Int) (o:CseAt h N bb mb s) (r0:Nat) (l:List KnV) (hl:l.map (·.k)=s.w) (hB:h.m bb=some ⟨⟨[.map (some mb),rowVl 13 r0 (rowK l)]⟩,98⟩) (hR:l≠[]→N≤r0∧h.m r0=some ⟨⟨(rowK l).flatten⟩,130⟩) (hw:s.w.length≤1000000000) :
 TF Tryd.prog 73 ⟨[.pointer (some ⟨bb,0,none⟩),.int .i64 r]⟩ h (.tuple #[]) (chgH h bb mb (dropM (s.m.del r) r) (l.filter (keepV r))):=by
 have hne:=o.ne
 have hM:=o.hm
 have hMr:=Nat.le_trans o.rw o.gm
 have hBr:=Nat.le_trans o.rw o.gb
 have hs0:=o.ok.s0
 have hll:l.length≤1000000000:=by rw [← hl] at hw;simpa using hw
 refine TF.introN (fn:=Tryd.f73) (c:=(Tryd.f73.body.getD .skip)) Tryd.func73 (by kernel_rfl) Tryd.ntmps73 (by kernel_rfl) (fun s0=>⟨Nat.le_succ _,by simp,fun i b hb=>?_⟩)
  (Q:=fun vs h'=>vs=[]∧∃ r',∀ B',Absb (P:=Tryd.prog) h' B'→h.n≤B'.n∧B'.m bb=some ⟨⟨[.map (some mb),rowVl 13 r' (rowK (l.filter (keepV r)))]⟩,98⟩∧B'.m mb=some ⟨⟨[]⟩,mapE (dropM (s.m.del r) r)⟩∧(l.filter (keepV r)≠[]→h.n≤r'∧B'.m r'=some ⟨⟨(rowK (l.filter (keepV r))).flatten⟩,130⟩)∧∀ i b,h.m i=some b→i≠bb→i≠mb→B'.m i=some b)
  (fun vs h' w sh s' hq=>?_) (fun s0=>?_)
 ·have hd:=s0.dom
  have hBn:=hd _ _ hB
  have hMn:=hd _ _ hM
  have up:∀ {u:Value},bnd h.n u→bnd (h.n+1) u:=fun hu=>bnd_mono (Nat.le_succ _) _ hu
  show i < h.n+1∧∀ u∈b.cells,bnd (h.n+1) u
  have hb:(if i=bb then some ⟨⟨[.map (some mb),rowVl 13 h.n (rowK (l.filter (keepV r)))]⟩,98⟩ else if i=mb then some ⟨⟨[]⟩,mapE (dropM (s.m.del r) r)⟩ else if i=h.n then (if l.filter (keepV r)=[] then none else some ⟨⟨(rowK (l.filter (keepV r))).flatten⟩,130⟩) else h.m i)=some b:=hb
  split at hb
  ·rename_i e
   injection hb with hb
   subst hb;subst e
   refine ⟨by omega,fun u hu=>?_⟩
   simp only [List.mem_toArray,List.mem_cons,List.not_mem_nil,or_false] at hu
   rcases hu with rfl|rfl
   ·simp;omega
   ·rw [rowVl_eq]
    split<;>simp
  split at hb
  ·rename_i e
   injection hb with hb
   subst hb;subst e
   exact ⟨by omega,fun u hu=>by simp at hu⟩
  split at hb
  ·rename_i e
   split at hb
   ·cases hb
   ·rename_i hn
    injection hb with hb
    subst hb;subst e
    refine ⟨Nat.lt_succ_self _,fun u hu=>up ?_⟩
    have hln:l≠[]:=fun e=>hn (by rw [e];rfl)
    refine s0.bd _ _ (hR hln).2 u ?_
    simp only [List.mem_toArray,List.mem_flatten,rowK,List.mem_map] at hu ⊢
    obtain ⟨c,⟨v,hv,hc⟩,huc⟩:=hu
    exact ⟨c,⟨v,(List.mem_filter.1 hv).1,hc⟩,huc⟩
  ·exact ⟨Nat.lt_succ_of_lt (hd _ _ hb),fun u hu=>up (s0.bd _ _ hb u hu)⟩
 ·obtain ⟨rfl,r',hB'⟩:=hq
  obtain ⟨q1,q2,q3,q4,q5⟩:=hB' _ (Absb.of w s')
  have hd:=sh.dom
  have hBn:=hd _ _ hB
  have hMn:=hd _ _ hM
  have hτ:∀ i,i < h.n→(fun i=>if i=h.n then r' else i) i=i:=fun i hi=>by show (if i=h.n then r' else i)=i;rw [if_neg (by omega)]
  have hpre:∀ i b,(chgH h bb mb (dropM (s.m.del r) r) (l.filter (keepV r))).m i=some b→i=h.n→l.filter (keepV r)≠[]:=fun i b hb hi e=>by
   subst hi
   have hb:(if h.n=bb then some ⟨⟨[.map (some mb),rowVl 13 h.n (rowK (l.filter (keepV r)))]⟩,98⟩ else if h.n=mb then some ⟨⟨[]⟩,mapE (dropM (s.m.del r) r)⟩ else if h.n=h.n then (if l.filter (keepV r)=[] then none else some ⟨⟨(rowK (l.filter (keepV r))).flatten⟩,130⟩) else h.m h.n)=some b:=hb
   rw [if_neg (by omega),if_neg (by omega),if_pos rfl,if_pos e] at hb
   cases hb
  have hlow:∀ i b,(chgH h bb mb (dropM (s.m.del r) r) (l.filter (keepV r))).m i=some b→i=h.n∨i < h.n:=fun i b hb=>by
   have hb:(if i=bb then some ⟨⟨[.map (some mb),rowVl 13 h.n (rowK (l.filter (keepV r)))]⟩,98⟩ else if i=mb then some ⟨⟨[]⟩,mapE (dropM (s.m.del r) r)⟩ else if i=h.n then (if l.filter (keepV r)=[] then none else some ⟨⟨(rowK (l.filter (keepV r))).flatten⟩,130⟩) else h.m i)=some b:=hb
   split at hb
   ·exact .inr (by omega)
   split at hb
   ·exact .inr (by omega)
   split at hb
   ·exact .inl (by assumption)
   ·exact .inr (hd _ _ hb)
  have same:∀ {b:Blk},(∀ u∈b.cells,bnd h.n u)→subB (fun i=>if i=h.n then r' else i) b=b:=fun {b} hb=>by
   obtain ⟨⟨cs⟩,e⟩:=b
   unfold subB
   congr 1
   rw [Array.map_congr_left (g:=id) fun u hu=>sub_same hτ u (hb u hu)];simp
  refine ⟨fun i=>if i=h.n then r' else i,⟨hτ,fun i b hb=>?_,fun i b hb hi hw=>?_,fun i j b c hi hj e=>?_,by simp [resultOf]⟩⟩
  ·have hpn:=hpre i b hb
   have hb:(if i=bb then some ⟨⟨[.map (some mb),rowVl 13 h.n (rowK (l.filter (keepV r)))]⟩,98⟩ else if i=mb then some ⟨⟨[]⟩,mapE (dropM (s.m.del r) r)⟩ else if i=h.n then (if l.filter (keepV r)=[] then none else some ⟨⟨(rowK (l.filter (keepV r))).flatten⟩,130⟩) else h.m i)=some b:=hb
   split at hb
   ·rename_i e
    injection hb with hb
    subst hb;subst e
    show h'.den.m (if i=h.n then r' else i)=_
    rw [if_neg (by omega),q2]
    simp only [subB,List.map_toArray,List.map_cons,List.map_nil,sub_map,rowVl_sub,if_pos rfl,if_neg (show ¬ mb=h.n by omega),if_true]
   split at hb
   ·rename_i e
    injection hb with hb
    subst hb;subst e
    show h'.den.m (if i=h.n then r' else i)=_
    rw [if_neg (by omega),q3];simp [subB]
   split at hb
   ·rename_i e
    split at hb
    ·cases hb
    ·rename_i hn
     injection hb with hb
     subst hb
     show h'.den.m (if i=h.n then r' else i)=_
     rw [if_pos e,(q4 hn).2,same]
     intro u hu
     have hln:l≠[]:=fun e=>hn (by rw [e];rfl)
     refine sh.bd _ _ (hR hln).2 u ?_
     simp only [List.mem_toArray,List.mem_flatten,rowK,List.mem_map] at hu ⊢
     obtain ⟨c,⟨v,hv,hc⟩,huc⟩:=hu
     exact ⟨c,⟨v,(List.mem_filter.1 hv).1,hc⟩,huc⟩
   ·show h'.den.m (if i=h.n then r' else i)=_
    rw [if_neg (by assumption),same fun u hu=>sh.bd _ _ hb u hu]
    exact q5 _ _ hb (by assumption) (by assumption)
  ·rcases hlow i b hb with e|e
   ·show rwM≤if i=h.n then r' else i
    rw [if_pos e]
    exact Nat.le_trans hw (q4 (hpre i b hb e)).1
   ·omega
  ·have e:(if i=h.n then r' else i)=(if j=h.n then r' else j):=e
   rcases hlow i b hi with e1|e1<;>rcases hlow j c hj with e2|e2
   ·omega
   ·rw [if_pos e1,if_neg (by omega)] at e
    have:=(q4 (hpre i b hi e1)).1
    omega
   ·rw [if_pos e2,if_neg (by omega)] at e
    have:=(q4 (hpre j c hj e2)).1
    omega
   ·rw [if_neg (by omega),if_neg (by omega)] at e;exact e
 ·have hd:=s0.dom
  have hBn:=hd _ _ hB
  have hMn:=hd _ _ hM
  conv=>arg 2;whnf
  refine WN.seq (K':=fun e f' h'=>e=.normal∧f'.nt=71∧AllV f'.l (chgF bb r)∧∀ B',Absb (P:=Tryd.prog) h' B'→h.n≤B'.n∧B'.m mb=some ⟨⟨[]⟩,mapE (s.m.del r)⟩∧∀ i b,h.m i=some b→i≠mb→B'.m i=some b) (WN.ofW ?_) (fun f1 h1 ⟨_,hnt1,hF1,hB1⟩=>?_) (fun e f' h' he ⟨h1,_⟩=>absurd h1 he)
  ·repeat (first|((with_reducible apply RS.delete);(iterate 4 exact rfl);exact hM;exact hMn;exact hMr;exact hs0)|refine Y3x ?_|refine Y29 ?_|refine Y0 ?_|refine Y1 ?_)
   refine ⟨rfl,rfl,by (repeat' (first|exact trivial|exact rfl|apply And.intro));done,fun B' a=>⟨a.le,a.up _ _ ?_,fun i b hi hn=>a.up _ _ ?_⟩⟩
   ·show (if mb=mb then some _ else h.m mb)=_
    rw [if_pos rfl]
   ·show (if i=mb then some _ else h.m i)=_
    rw [if_neg hn];exact hi
  ·refine WN.re hnt1 hF1 fun B1 x1 s1=>?_
   obtain ⟨g1,g2,g3⟩:=hB1 _ x1
   have hden1:=s1.den
   refine WN.seq (K':=RangeK B1 bb mb r (s.m.del r)) ?_ (fun f2 h2 ⟨_,hnt2,hF2,hB2⟩=>?_) (fun e f' h' he ⟨h1,_⟩=>absurd h1 he)
   ·intro a ρ W w ho b g
    rw [hden1] at ho b ⊢
    exact chg_range B1 bb mb r _ (s.m.del r) (g3 _ _ hB hne.symm) g2 hMr (o.ok.del r) a ρ W ho b g
   ·refine WN.re hnt2 hF2 fun B2 x2 s2=>WN.ofW ?_
    obtain ⟨k1,k2,k3⟩:=hB2 _ x2
    have hup:∀ i b,h.m i=some b→i≠mb→B2.m i=some b:=fun i b h1 h2=>k3 _ _ (g3 _ _ h1 h2) h2
    have hRm:l≠[]→r0≠mb:=fun hn e=>by
     have h1:=(hR hn).2
     rw [e,hM] at h1
     injection h1 with h1
     injection h1 with _ h1
     exact absurd (mapE_ge s.m) (by rw [h1];decide)
    have:=chg_rest B2 s2 bb mb r r0 l (hup _ _ hB hne.symm) (fun hn=>hup _ _ (hR hn).2 (hRm hn)) hBr hll
    refine W.mono this ?_
    have key:∀ (vs:List Value) (h':SH),(vs=[]∧∃ r',∀ B',Absb (P:=Tryd.prog) h' B'→B2.n≤B'.n∧B'.m bb=some ⟨⟨[.map (some mb),rowVl 13 r' (rowK (l.filter (keepV r)))]⟩,98⟩∧(l.filter (keepV r)≠[]→B2.n≤r'∧B'.m r'=some ⟨⟨(rowK (l.filter (keepV r))).flatten⟩,130⟩)∧∀ i b,B2.m i=some b→i≠bb→B'.m i=some b) →
     (vs=[]∧∃ r',∀ B',Absb (P:=Tryd.prog) h' B'→h.n≤B'.n∧B'.m bb=some ⟨⟨[.map (some mb),rowVl 13 r' (rowK (l.filter (keepV r)))]⟩,98⟩∧B'.m mb=some ⟨⟨[]⟩,mapE (dropM (s.m.del r) r)⟩∧(l.filter (keepV r)≠[]→h.n≤r'∧B'.m r'=some ⟨⟨(rowK (l.filter (keepV r))).flatten⟩,130⟩)∧∀ i b,h.m i=some b→i≠bb→i≠mb→B'.m i=some b):=by
     rintro vs h' ⟨rfl,r',hx⟩
     refine ⟨rfl,r',fun B' a=>?_⟩
     obtain ⟨p1,p2,p3,p4⟩:=hx B' a
     exact ⟨by omega,p2,p4 _ _ k2 hne,fun hn=>⟨by have:=(p3 hn).1;omega,(p3 hn).2⟩,fun i b q1 q2 q3=>p4 _ _ (hup _ _ q1 q3) q2⟩
    intro e f h' hk
    cases e with
    | ret=>obtain ⟨vs,h1,h2⟩:=hk;exact ⟨vs,h1,key _ _ h2⟩
    | normal=>obtain ⟨vs,h1,h2⟩:=hk;exact ⟨vs,h1,key _ _ h2⟩
    | _=>exact hk.elim
theorem changed_ex (h:Hp) (N bb mb:Nat) (s:CseS) (r:Int) (o:CseAt h N bb mb s) (hw:s.w.length≤1000000000):EX Tryd.prog 73 [.pointer (some ⟨bb,0,none⟩),.int .i64 r] h (fun v h'=>v=.tuple #[]∧CseAt h' N bb mb (chgC s r)∧KeepC bb mb h h'):=by
 obtain ⟨r0,l,hl,hB,hR⟩:=o.row
 have hgb:=o.gb
 have hgm:=o.gm
 have hne:=o.ne
 refine (TF.ex (changed_tf h N bb mb s r o r0 l hl hB hR hw)).mono ?_
 rintro v h' sh ⟨rfl,rfl⟩
 have hBn:=sh.dom _ _ hB
 have hMn:=sh.dom _ _ o.hm
 refine ⟨rfl,⟨o.rw,o.gb,o.gm,?_,(o.ok.del r).drop r,h.n,l.filter (keepV r),?_,?_,fun hn=>⟨by omega,?_⟩⟩,⟨Nat.le_succ _,fun i b hb h1 h2=>?_⟩⟩
 ·show (if mb=bb then _ else if mb=mb then some _ else _)=_
  rw [if_neg hne,if_pos rfl];rfl
 ·show _=(s.w.filter (keepW r))
  rw [← hl,List.filter_map];rfl
 ·show (if bb=bb then some _ else _)=_
  rw [if_pos rfl]
 ·show (if h.n=bb then _ else if h.n=mb then some _ else if h.n=h.n then _ else _)=_
  rw [if_neg (by omega),if_neg (by omega),if_pos rfl,if_neg hn]
 ·have:=sh.dom _ _ hb
  show (if i=bb then _ else if i=mb then some _ else if i=h.n then _ else h.m i)=_
  rw [if_neg h1,if_neg h2,if_neg (by omega)];exact hb
end Go.Proofs.YtjhloakacicdiaaDoor
