/-
  What the functions that the law reaches compute,told by plain data;it holds of programs that pass the check of right form and are light.
-/
import Derived.Test.YtjhloakacicdiaaDoorR3
set_option linter.unusedVariables false
set_option linter.unusedSimpArgs false
namespace Go.Proofs.YtjhloakacicdiaaDoor
open Go.AH
attribute [local irreducible] W RS
def SN (A:Option Addr) (i:Nat):Prop:=A=some ⟨i,0,none⟩
theorem OffS.same {S:Nat→Prop} {a b c:Hp} (h1:OffS S a b) (h2:OffS S b c):OffS S a c:=h1.trans h2 fun _ _ h=>h
def killA (h:Hp) (A:Option Addr):Hp:=match A with
 | some a=>h.kill a.block
 | none=>h
theorem readsS_len (x:InsS) (h:x.args.length≤1000000000):(readsS x).length≤1000000001:=by
 unfold readsS
 repeat' split
 all_goals (try simp only [List.length_cons,List.length_nil])
 all_goals first|omega|decide
structure FAt (h:Hp) (fb:Nat) (regs:Int) (A:Option Addr) (c:Nat) (bl:List BlockS):Prop where
 hf:∃ fcs,h.m fb=some ⟨⟨fcs⟩,37⟩∧fcs[3]?=some (.int .i64 regs)∧fcs[5]?=some (.slice A bl.length c)
 sl:SlAt h A 9 bl (blockR h)
def tgtOK (bl:List BlockS):Prop:=∀ b∈bl,∀ k∈nextS b.term,0≤k∧k < bl.length
def lackS (n:Nat) (s:SetS):Nat:=((List.range n).filter fun i:Nat=>!hasS s (i:Int)).length
theorem takeV_part {off w j n:Nat} {cs vs:List Value} (h:takeV off w cs=vs) (hj:j+n≤w):takeV (off+j) n cs=(vs.drop j).take n:=by
 subst h
 rw [takeV_eq,takeV_eq,List.drop_take,List.drop_drop,List.take_take,Nat.min_eq_left (by omega)]
def intsV (l:List Int):List Value:=l.reverse.map (.int .i64)
@[simp] theorem intsV_length (l:List Int):(intsV l).length=l.length:=by simp [intsV]
structure ReachI (h:Hp) (L:Nat) (sb wb:Nat) (X:Nat→Prop) (s:SetS) (work:List Int) (B:Hp):Prop where
 old:Old h B
 hs:B.m sb=some ⟨⟨setC s⟩,90⟩
 hl:s.length=L
 stk:∃ A cap,B.m wb=some ⟨⟨[.slice A work.length cap]⟩,34⟩∧StkRow B 3 A cap (intsV work)∧∀ a,A=some a→h.n≤a.block∧¬ X a.block
theorem setL_app1:∀ (c r:List Value) (o:Nat) (vs:List Value),o+vs.length≤c.length→setL (c++r) o vs=setL c o vs++r
 | [],r,o,vs,h=>by
  have h:o+vs.length≤0:=h
  have h1:o=0:=by omega
  have h2:vs=[]:=List.length_eq_zero_iff.1 (by omega)
  subst h1;subst h2
  rw [setL_nil,setL_nil]
 | a::c,r,0,[],_=>by rw [setL_nil,setL_nil]
 | a::c,r,0,v::vs,h=>by
  have:=setL_app1 c r 0 vs (by simp at h ⊢;omega)
  simp only [List.cons_append,setL,this]
 | a::c,r,o+1,vs,h=>by
  have:=setL_app1 c r o vs (by simp at h ⊢;omega)
  simp only [List.cons_append,setL,this]
theorem setL_app2:∀ (c r:List Value) (k:Nat) (vs:List Value),setL (c++r) (c.length+k) vs=c++setL r k vs
 | [],r,k,vs=>by simp
 | a::c,r,k,vs=>by
  have:=setL_app2 c r k vs
  have e:(a::c).length+k=(c.length+k)+1:=by simp;omega
  rw [e]
  simp only [List.cons_append,setL,this]
theorem flat_set {w:Nat}:∀ {L:List (List Value)},(∀ c∈L,c.length=w)→∀ {i o:Nat} {x vs:List Value},L[i]?=some x→o+vs.length≤w→setL L.flatten (i * w+o) vs=(L.set i (setL x o vs)).flatten:=by
 intro L
 induction L with
 | nil=>intro _ i o x vs hx;simp at hx
 | cons c L ih =>
  intro hw i o x vs hx ho
  have hc:=hw c (by simp)
  cases i with
  | zero =>
   simp only [List.getElem?_cons_zero,Option.some.injEq] at hx
   subst hx
   rw [Nat.zero_mul,Nat.zero_add,List.flatten_cons,setL_app1 _ _ _ _ (by omega),List.set_cons_zero,List.flatten_cons]
  | succ i =>
   have:=ih (fun c' hc'=>hw c' (by simp [hc'])) (i:=i) (by simpa using hx) ho
   rw [List.flatten_cons,List.set_cons_succ,List.flatten_cons,← this]
   have e:(i+1) * w+o=c.length+(i * w+o):=by rw [hc,Nat.succ_mul];omega
   rw [e,setL_app2]
theorem flat_take {w:Nat} {L:List (List Value)} (hw:∀ c∈L,c.length=w) {i:Nat} {x:List Value} (hx:L[i]?=some x):takeV (i * w) w L.flatten=x∧i * w+w≤L.flatten.length:=by
 have hxl:=hw x (List.mem_of_getElem? hx)
 have hi:=(List.getElem?_eq_some_iff.1 hx).1
 have hlen:=flat_len hw
 have hle:i * w+w≤L.flatten.length:=by
  rw [hlen]
  have:(i+1) * w≤L.length * w:=Nat.mul_le_mul_right _ (by omega)
  rw [Nat.succ_mul] at this;exact this
 refine ⟨?_,hle⟩
 rw [takeV_eq]
 apply List.ext_getElem?
 intro j
 by_cases hj:j < w
 ·rw [List.getElem?_take_of_lt hj,List.getElem?_drop,flat_get hw i j hj,hx];rfl
 ·have h1:x[j]?=none:=by rw [List.getElem?_eq_none_iff];omega
  rw [h1,List.getElem?_take,if_neg hj]
abbrev InsV:=InsS × Nat
def insVC (x:InsV):List Value:=[.int .i64 x.1.op,.int .i64 x.1.dst,.int .i64 x.1.a.reg,.int .i64 x.1.a.num,.int .i64 x.1.b.reg,.int .i64 x.1.b.num,.int .i64 x.1.size,.bool x.1.signed,.bool x.1.secret,.int .i64 x.1.ref,.int .i64 x.1.off,rowVl 2 x.2 x.1.args]
structure BV where
 ins:List InsV
 r:Nat
 term:TermS
def BV.s (b:BV):BlockS:=⟨b.ins.map (·.1),b.term⟩
def BV.c (b:BV):List Value:=rowVl 12 b.r b.ins::termC b.term
def insA (x:InsV):Option Addr:=if x.1.args=[] then none else some ⟨x.2,0,none⟩
def insK (x:InsV):Nat:=if x.1.args=[] then 0 else capOf 2
theorem insVC_eq (x:InsV):insVC x=insC x.1 (insA x) (insK x):=by
 unfold insVC insC insA insK
 rw [rowVl_eq]
def BV.A (b:BV):Option Addr:=if b.ins=[] then none else some ⟨b.r,0,none⟩
def BV.k (b:BV):Nat:=if b.ins=[] then 0 else capOf 12
theorem BVc_eq (b:BV):b.c=blockC b.s b.A b.k:=by
 unfold BV.c blockC BV.A BV.k BV.s
 rw [rowVl_eq]
 simp [termC]
structure OwnB (h:Hp) (bb:Nat) (bv:List BV):Prop where
 rw:rwM≤bb
 m:h.m bb=some ⟨⟨(bv.map BV.c).flatten⟩,50⟩
 row:∀ b∈bv,b.ins≠[]→rwM≤b.r∧h.m b.r=some ⟨⟨(b.ins.map insVC).flatten⟩,58⟩
 arg:∀ b∈bv,∀ x∈b.ins,x.1.args≠[]→rwM≤x.2∧h.m x.2=some ⟨⟨argsC x.1.args⟩,46⟩
 sep:∀ (i j:Nat) (x y:BV),bv[i]?=some x→bv[j]?=some y→x.ins≠[]→y.ins≠[]→x.r=y.r→i=j
def sL (bv:List BV):List BlockS:=bv.map BV.s
theorem insR_own {h:Hp} {x:InsV} (ha:x.1.args≠[]→rwM≤x.2∧h.m x.2=some ⟨⟨argsC x.1.args⟩,46⟩):insR h (insVC x) x.1:=by
 refine ⟨insA x,insK x,insVC_eq x,?_⟩
 unfold insA
 by_cases e:x.1.args=[]
 ·rw [e];exact .nil
 ·rw [if_neg e];exact argR_row (ha e).2
theorem own_ins {h:Hp} {b:BV} (hr:b.ins≠[]→rwM≤b.r∧h.m b.r=some ⟨⟨(b.ins.map insVC).flatten⟩,58⟩) (ha:∀ x∈b.ins,x.1.args≠[]→rwM≤x.2∧h.m x.2=some ⟨⟨argsC x.1.args⟩,46⟩):SlAt h b.A 12 (b.ins.map (·.1)) (insR h):=by
 refine ⟨fun i x hx=>?_⟩
 have hne:b.ins≠[]:=by intro e;rw [e] at hx;simp at hx
 rw [List.getElem?_map] at hx
 obtain ⟨y,hy,rfl⟩:=Option.map_eq_some_iff.1 hx
 have hw:∀ c∈b.ins.map insVC,c.length=12:=by intro c hc;obtain ⟨z,_,rfl⟩:=List.mem_map.1 hc;rfl
 obtain ⟨h1,h2⟩:=flat_take hw (i:=i) (x:=insVC y) (by rw [List.getElem?_map,hy];rfl)
 refine ⟨b.r,0,_,58,by unfold BV.A;rw [if_neg hne],(hr hne).2,by omega,?_⟩
 rw [Nat.zero_add,h1]
 exact insR_own (ha y (List.mem_of_getElem? hy))
theorem OwnB.sl {h:Hp} {bb:Nat} {bv:List BV} (o:OwnB h bb bv):SlAt h (some ⟨bb,0,none⟩) 9 (sL bv) (blockR h):=by
 refine ⟨fun i x hx=>?_⟩
 unfold sL at hx
 rw [List.getElem?_map] at hx
 obtain ⟨b,hb,rfl⟩:=Option.map_eq_some_iff.1 hx
 have hw:∀ c∈bv.map BV.c,c.length=9:=by intro c hc;obtain ⟨z,_,rfl⟩:=List.mem_map.1 hc;rfl
 obtain ⟨h1,h2⟩:=flat_take hw (i:=i) (x:=b.c) (by rw [List.getElem?_map,hb];rfl)
 have hmem:=List.mem_of_getElem? hb
 refine ⟨bb,0,_,50,rfl,o.m,by omega,b.A,b.k,?_,own_ins (o.row b hmem) (o.arg b hmem)⟩
 rw [Nat.zero_add,h1];exact BVc_eq b
def Foot (bb:Nat) (bv:List BV) (i:Nat):Prop:=i=bb∨∃ b∈bv,b.ins≠[]∧b.r=i
theorem sL_length (bv:List BV):(sL bv).length=bv.length:=by simp [sL]
theorem mem_set {α:Type} {l:List α} {i:Nat} {a b:α} (h:b∈l.set i a):b∈l∨b=a:=by
 rcases List.mem_or_eq_of_mem_set h with h|h
 ·exact .inl h
 ·exact .inr h
theorem bv_wid (bv:List BV):∀ c∈bv.map BV.c,c.length=9:=by intro c hc;obtain ⟨z,_,rfl⟩:=List.mem_map.1 hc;rfl
theorem bv_at {bv:List BV} {i:Nat} {b:BV} (hb:bv[i]?=some b):(bv.map BV.c)[i]?=some b.c:=by rw [List.getElem?_map,hb];rfl
theorem bv_write {bv:List BV} {i o off:Nat} {b b':BV} {vs:List Value} (hb:bv[i]?=some b) (ho:off=i * 9+o) (hl:o+vs.length≤9) (hs:setL b.c o vs=b'.c):setL (bv.map BV.c).flatten off vs=((bv.set i b').map BV.c).flatten:=by
 rw [ho,flat_set (bv_wid bv) (bv_at hb) hl,hs,List.map_set]
theorem bv_cell {bv:List BV} {i o off:Nat} {b:BV} {v:Value} (hb:bv[i]?=some b) (ho:off=i * 9+o) (hl:o < 9) (hv:b.c[o]?=some v):(bv.map BV.c).flatten[off]?=some v:=by
 rw [ho,flat_get (bv_wid bv) i o hl,bv_at hb];exact hv
theorem bv_cells {bv:List BV} {i o n off:Nat} {b:BV} (hb:bv[i]?=some b) (ho:off=i * 9+o) (hl:o+n≤9):takeV off n (bv.map BV.c).flatten=(b.c.drop o).take n∧off+n≤(bv.map BV.c).flatten.length:=by
 obtain ⟨h1,h2⟩:=flat_take (bv_wid bv) (bv_at hb)
 subst ho
 exact ⟨takeV_part h1 hl,by omega⟩
structure FunB (h:Hp) (fb:Nat) (f:FuncS) (A1:Option Addr) (c1:Nat) (A2:Option Addr) (c2:Nat) (bb c3:Nat):Prop where
 m:h.m fb=some ⟨⟨funcC f A1 c1 A2 c2 (some ⟨bb,0,none⟩) c3⟩,37⟩
 rw:rwM≤fb
theorem ne_of_elem {h:Hp} {i j:Nat} {x y:Blk} (hx:h.m i=some x) (hy:h.m j=some y) (he:x.elem≠y.elem):i≠j:=by
 intro e
 subst e
 rw [hx] at hy
 injection hy with hy
 exact he (by rw [hy])
def totB (bv:List BV):Nat:=(bv.map fun b=>b.ins.length).sum
structure MeltI (h:Hp) (bb:Nat) (bv0:List BV) (fb:Nat) (f:FuncS) (A1:Option Addr) (c1:Nat) (A2:Option Addr) (c2 c3:Nat) (bv:List BV) (B:Hp):Prop where
 ob:OwnB B bb bv
 fn:FunB B fb f A1 c1 A2 c2 bb c3
 off:OffS (Foot bb bv0) h B
 foot:∀ i,Foot bb bv i→Foot bb bv0 i∨h.n≤i
 len:bv.length=bv0.length
 tgt:tgtOK (sL bv)
 tot:totB bv≤1000000
end Go.Proofs.YtjhloakacicdiaaDoor
