/-
  What the functions that the law reaches compute,told by plain data;it holds of programs that pass the check of right form and are light.
-/
import Derived.Test.YtjhloakacicdiaaDoorR11
import Derived.Test.YtjhloakacicdiaaDoorR13
import Derived.Test.YtjhloakacicdiaaDoorR14
import Derived.Test.YtjhloakacicdiaaDoorR9
import Derived.Test.YtjhloakacicdiaaDoorS2
set_option linter.unusedVariables false
set_option linter.unusedSimpArgs false
namespace Go.Proofs.YtjhloakacicdiaaDoor
open Go.AH
attribute [local irreducible] W RS
instance tyP_fact:TyP Tryd.prog 145 [.int .i64,.int .i64]:=⟨by kernel_rfl⟩
theorem meetL_take_at:∀ {a l:List FactS} {i:Nat} {f:FactS},a[i]?=some f→(meetL a (l.take i))[i]?=some f
 | x::a,[],0,f,h=>by simpa [meetL] using h
 | x::a,y::l,0,f,h=>by simpa [meetL] using h
 | x::a,[],i+1,f,h=>by simpa [meetL] using h
 | x::a,y::l,i+1,f,h=>by
  rw [List.take_succ_cons,meetL,List.getElem?_cons_succ]
  exact meetL_take_at (by simpa using h)
 | [],_,_,_,h=>by simp at h
theorem meetL_take_succ:∀ {a l:List FactS} {i:Nat} {f g:FactS},a[i]?=some f→l[i]?=some g→meetL a (l.take (i+1))=(meetL a (l.take i)).set i (meetF f g)
 | x::a,y::l,0,f,g,h1,h2=>by
  simp only [List.getElem?_cons_zero,Option.some.injEq] at h1 h2
  subst h1;subst h2
  simp [meetL]
 | x::a,y::l,i+1,f,g,h1,h2=>by
  rw [List.take_succ_cons,List.take_succ_cons,meetL,meetL,List.set_cons_succ]
  rw [meetL_take_succ (a:=a) (l:=l) (by simpa using h1) (by simpa using h2)]
 | [],_,_,_,_,h1,_=>by simp at h1
 | _::_,[],_,_,_,_,h2=>by simp at h2
theorem sameL_succ:∀ {a l:List FactS} {i:Nat} {f g:FactS},a[i]?=some f→l[i]?=some g→sameL (meetL a (l.take (i+1))) a=(sameL (meetL a (l.take i)) a && sameF (meetF f g) f)
 | x::a,y::l,0,f,g,h1,h2=>by
  simp only [List.getElem?_cons_zero,Option.some.injEq] at h1 h2
  subst h1;subst h2
  have e0:sameL a a=true:=(sameL_iff rfl).2 rfl
  have e1:sameF x x=true:=sameF_iff.2 rfl
  have e2:meetL a []=a:=by cases a<;>rfl
  simp only [List.take_succ_cons,List.take_zero,meetL,sameL,e0,e1,e2,Bool.and_true,Bool.true_and]
 | x::a,y::l,i+1,f,g,h1,h2=>by
  rw [List.take_succ_cons,List.take_succ_cons,meetL,meetL,sameL,sameL,sameL_succ (a:=a) (l:=l) (by simpa using h1) (by simpa using h2),Bool.and_assoc]
 | [],_,_,_,_,h1,_=>by simp at h1
 | _::_,[],_,_,_,_,h2=>by simp at h2
theorem bools_get {s:List Bool} {i:Nat} {b:Bool} (h:s[i]?=some b):(s.map Value.bool)[0+i * 1]?=some (.bool b):=by
 rw [Nat.zero_add,Nat.mul_one,List.getElem?_map,h];rfl
theorem bools_set (s:List Bool) (i:Nat) (b:Bool):setL (s.map Value.bool) (0+i * 1) [.bool b]=(s.set i b).map .bool:=by
 rw [cells_set1,List.map_set]
theorem cells_at {l:List Value} {i:Nat} {v:Value} (h:l[i]?=some v):l[0+i * 1]?=some v:=by rw [Nat.zero_add,Nat.mul_one];exact h
def ApartF (al:List Nat) (ins:List (List FactS)) (i:Nat):Prop:=∀ (j:Nat) (l:List FactS),al[j]?=some i→ins[j]?=some l→l=[]
def ApartW (h:Hp) (sb i:Nat):Prop:=∀ (f g e:Value) (A:Option Addr) (n c:Nat) (el:TypeId),h.m sb=some ⟨⟨[f,g,e,.slice A n c]⟩,el⟩→A≠some ⟨i,0,none⟩
def ReachQ (h:Hp) (N sb fb ib nb:Nat) (al:List Nat) (n:Nat) (s t:SolS) (h':Hp):Prop :=
 ∃ al',SolAt h' N sb fb ib nb al' n t∧OffS (fun i=>N≤i) h h'∧(∀ i b,h.m i=some b→b.elem=145→ApartF al s.ins i→h'.m i=some b∧ApartF al' t.ins i)∧∀ i b,h.m i=some b→b.elem=3→ApartW h sb i→h'.m i=some b∧ApartW h' sb i
theorem reach_close {h C0 B7 H7 B':Hp} {N sb fb ib nb:Nat} {al al':List Nat} {n:Nat} {s t:SolS} {k:Int} {A3 A7:Option Addr} {cap3 cap7:Nat} {vs:List Value} {Y:Blk} (hd:∀ i b,h.m i=some b→i < h.n) (hn0:h.n≤C0.n) (o3:SolAt C0 N sb fb ib nb al' n t)
 (hlow:∀ i,i < N→C0.m i=h.m i) (hap:∀ i b,h.m i=some b→b.elem=145→ApartF al s.ins i→C0.m i=some b∧ApartF al' t.ins i) (hN:N≤h.n) (hki:∀ i b,h.m i=some b→b.elem=3→C0.m i=some b) (hw3:∀ i,ApartW h sb i→A3≠some ⟨i,0,none⟩)
 (hstk3:StkRow C0 3 A3 cap3 (intsV t.work)) (hA3:∀ a,A3=some a→N≤a.block) (hup7:∀ i b,C0.m i=some b→B7.m i=some b) (hB7:Old C0 B7) (hd7:∀ i b,B7.m i=some b→i < B7.n) (hvs:vs=intsV (k::t.work)) (hst7:StkRow H7 3 A7 cap7 vs) (hle7:B7.n≤H7.n)
 (hoff7:∀ i,i < B7.n→A3≠some ⟨i,0,none⟩→H7.m i=B7.m i) (hA7:∀ a,A7=some a→A3=some a∨B7.n≤a.block) (hS7:∃ b,H7.m sb=some b∧b.elem=141) (hY:Y=⟨⟨[.pointer (some ⟨fb,0,none⟩),.slice (some ⟨ib,0,none⟩) n n,.slice (some ⟨nb,0,none⟩) n n,.slice A7 (t.work.length+1) cap7]⟩,141⟩)
 (hup:∀ i b,(H7.set sb Y).m i=some b→B'.m i=some b) (ho:Old (H7.set sb Y) B'):ReachQ h N sb fb ib nb al n s ⟨t.ins,t.seen,k::t.work⟩ B':=by
 obtain ⟨b7,hS7,hS7e⟩:=hS7
 have hk7:∀ i b,C0.m i=some b→b.elem≠3→H7.m i=some b:=fun i b hb he=>by
  rw [hoff7 i (hd7 _ _ (hup7 _ _ hb)) (stk_ne hstk3 hb he)];exact hup7 _ _ hb
 have hkB:∀ i b,C0.m i=some b→b.elem≠3→b.elem≠141→B'.m i=some b:=fun i b hb he he2=>by
  refine hup i b ?_
  show (if i=sb then _ else H7.m i)=_
  rw [if_neg (ne_of_elem (hk7 i b hb he) hS7 (by rw [hS7e];exact he2))]
  exact hk7 i b hb he
 have hst':StkRow B' 3 A7 cap7 vs:=hst7.keep fun i b hb he=>by
  refine hup i b ?_
  show (if i=sb then _ else H7.m i)=_
  rw [if_neg (ne_of_elem hb hS7 (by rw [hS7e,he];decide))]
  exact hb
 have hgs:=o3.gs
 have hnn:h.n≤B7.n:=Nat.le_trans hn0 hB7.1
 have o4:=o3.setWork (w:=k::t.work) hkB ⟨A7,cap7,hup sb _ (by show (if sb=sb then _ else _)=_;rw [if_pos rfl,hY];rfl),by rw [← hvs];exact hst',fun a ha=>by
  rcases hA7 a ha with e|e
  ·exact hA3 a e
  ·omega⟩
 refine ⟨al',o4,⟨?_,fun i hi hn=>?_⟩,fun i b hb he hx=>?_,fun i b hb he hx=>⟨?_,fun f g e A n c el hm hA=>?_⟩⟩
 ·have h1:H7.n≤B'.n:=ho.1
  omega
 ·have hiN:i < N:=by omega
  have h1:B'.m i=(H7.set sb Y).m i:=ho.2 i (show i < H7.n by omega)
  rw [h1]
  show (if i=sb then _ else H7.m i)=_
  rw [if_neg (by omega),hoff7 i (by omega) (fun e=>by have:=hA3 _ e;dsimp only at this;omega),hB7.2 i (by omega),hlow i hiN]
 ·obtain ⟨h1,h2⟩:=hap i b hb he hx
  exact ⟨hkB i b h1 (by rw [he];decide) (by rw [he];decide),h2⟩
 ·have h1:=hki i b hb he
  have h7:H7.m i=some b:=by rw [hoff7 i (hd7 _ _ (hup7 _ _ h1)) (hw3 i hx)];exact hup7 _ _ h1
  refine hup i b ?_
  show (if i=sb then _ else H7.m i)=_
  rw [if_neg (ne_of_elem h7 hS7 (by rw [hS7e,he];decide))]
  exact h7
 ·have hYm:B'.m sb=some Y:=hup sb _ (by show (if sb=sb then _ else _)=_;rw [if_pos rfl])
  rw [hYm,hY] at hm
  injection hm with hm
  injection hm with hm _
  injection hm with hm
  simp only [List.cons.injEq,Value.slice.injEq] at hm
  have hAA:A7=A:=hm.2.2.2.1.1
  rw [← hAA] at hA
  rcases hA7 _ hA with e|e
  ·exact hw3 i hx e
  ·have:=hd i b hb
   dsimp only at e
   omega
set_option maxRecDepth 100000 in
theorem reach_new (sb fb ib nb:Nat) (al:List Nat) (n:Nat) (s:SolS) (k:Int) (l:List FactS) (ab c N:Nat) (h0:0≤k) (h1:k < n) (hnn:n≤100000) (hl:l.length≤1000000) (hw:s.work.length≤1000000000000) (hseen:s.seen[k.toNat]?=some false) (hlpos:0 < l.length) (h:Hp) (o:SolAt h N sb fb ib nb al n s) (hR:h.m ab=some ⟨⟨factsC l⟩,145⟩) :
 EX Tryd.prog 96 [.pointer (some ⟨sb,0,none⟩),.int .i64 k,.slice (some ⟨ab,0,none⟩) l.length c] h (fun v h'=>v=.tuple #[]∧ReachQ h N sb fb ib nb al n s (reachF l s k) h'):=by
 refine EX.intro (fn:=Tryd.f96) (c:=(Tryd.f96.body.getD .skip)) Tryd.func96 (by kernel_rfl) Tryd.ntmps96 (by kernel_rfl) fun π s0=>?_
 conv=>arg 2;whnf
 have hd:=s0.dom
 have hRn:=hd _ _ hR
 have hnat:k=(k.toNat:Int):=by omega
 have hlt:k.toNat < n:=by omega
 obtain ⟨A,cap,hS,hstk,hA⟩:=o.stk
 have hSn:=hd _ _ hS
 have hI:=o.hi
 have hIn:=hd _ _ hI
 have hNb:=o.hn
 have hNbn:=hd _ _ hNb
 have hIr:rwM≤ib:=Nat.le_trans o.rw o.gi
 have hNbr:rwM≤nb:=Nat.le_trans o.rw o.gn
 have hal:al.length=s.ins.length:=by rw [o.alen,o.ilen]
 have hil:=o.ilen
 have hsl:=o.slen
 have hwhole:takeV 0 (l.length * 2) (factsC l)=factsC l:=by rw [takeV_eq,List.drop_zero,List.take_of_length_le (by rw [factsC_length];exact Nat.le_refl _)]
 have hSr:rwM≤sb:=Nat.le_trans o.rw o.gs
 ((with_reducible apply W.seq);repeat (first|refine Y2a ?_|refine Y1p ?_|refine Yo ?_|refine Y0 ?_|refine Y1 ?_|refine Yu ?_))
 ((with_reducible apply W.seq);repeat (fail))
 ((with_reducible apply W.seq);repeat (first|refine Y2q ?_|refine Y1p ?_|((with_reducible apply RS.appendNilB);(iterate 6 exact rfl);exact hR;exact hRn;(rw [factsC_length];omega);exact hlpos;omega;omega;exact hwhole)|refine Y43 ?_|refine Y1i ?_|refine Y0 ?_|refine Y1 ?_|refine Y6 ?_|refine Yu ?_))
 refine W.absorbX fun C π2 a2=>?_
 have hq:C.m (π 0)=some ⟨⟨factsC l⟩,145⟩:=a2.loc 0 (Nat.lt_succ_self 0)
 have hqn:h.n≤π 0:=a2.lo 0 (Nat.lt_succ_self 0)
 generalize π 0=q at *
 have hset:∀ i,i < h.n→C.m i=if i=ib then some ⟨⟨(rowsV al s.ins).set k.toNat (.slice (some ⟨q,0,none⟩) l.length (capOf 2))⟩,143⟩ else h.m i:=fun i hi=>a2.old i hi
 have hln:l≠[]:=List.length_pos_iff.1 hlpos
 have hCi:C.m ib=some ⟨⟨(rowsV al s.ins).set k.toNat (rowVl 2 q l)⟩,143⟩:=by
  rw [hset ib hIn,if_pos rfl,rowVl_ne hln]
 have hCk:∀ i b,h.m i=some b→b.elem≠143→C.m i=some b:=by
  intro i b hb he
  rw [hset i (hd i b hb),if_neg (ne_of_elem hb hI he)]
  exact hb
 have hNh:N≤h.n:=Nat.le_trans o.gs (Nat.le_of_lt hSn)
 have o2:=o.newRow (k:=k.toNat) (l:=l) hCi (fun _=>⟨Nat.le_trans hNh hqn,hq,fun b hb=>by have:=hd _ _ hb;omega⟩) hCk
 have hNb2:C.m nb=some ⟨⟨s.seen.map .bool⟩,4⟩:=o2.hn
 have hNb2n:=a2.dom _ _ hNb2
 obtain ⟨A2,cap2,hS2,hstk2,hA2⟩:=o2.stk
 have hS2:C.m sb=some ⟨⟨[.pointer (some ⟨fb,0,none⟩),.slice (some ⟨ib,0,none⟩) n n,.slice (some ⟨nb,0,none⟩) n n,.slice A2 s.work.length cap2]⟩,141⟩:=hS2
 have hS2n:=a2.dom _ _ hS2
 obtain ⟨X,hX⟩:∃ X:Blk,X=⟨⟨(s.seen.set k.toNat true).map .bool⟩,4⟩:=⟨_,rfl⟩
 have hXk:∀ i b,C.m i=some b→b.elem≠4→(C.set nb X).m i=some b:=fun i b hb he=>by
  show (if i=nb then _ else C.m i)=_
  rw [if_neg (ne_of_elem hb hNb2 he)];exact hb
 have o3:=o2.setSeen (t:=s.seen.set k.toNat true) (by rw [List.length_set];exact hsl) (show (C.set nb X).m nb=_ by show (if nb=nb then _ else _)=_;rw [if_pos rfl,hX]) hXk
 obtain ⟨A3,cap3,hS3,hstk3,hA3⟩:=o3.stk
 have hS3:(C.set nb X).m sb=some ⟨⟨[.pointer (some ⟨fb,0,none⟩),.slice (some ⟨ib,0,none⟩) n n,.slice (some ⟨nb,0,none⟩) n n,.slice A3 s.work.length cap3]⟩,141⟩:=hS3
 have hstk3:StkRow (C.set nb X) 3 A3 cap3 (intsV s.work):=hstk3
 have hS3n:sb < (C.set nb X).n:=hS2n
 have hneS:A3≠some ⟨sb,0,none⟩:=stk_ne hstk3 hS3 (by simp)
 have hSS:(C.set nb X).m sb=h.m sb:=by rw [hXk sb _ (hCk sb _ hS (by simp)) (by simp),hS]
 ((with_reducible apply W.seq);repeat (first|refine Y1p ?_|((with_reducible apply RS.load1B);(iterate 3 exact rfl);exact hS2;exact hS2n;exact rfl)|refine Y3z ?_|refine Y1i ?_|refine Y0 ?_|refine Y1 ?_|refine Yu ?_))
 rw [← hX]
 ((with_reducible apply W.seq);repeat (first|refine Ym ?_|((with_reducible apply RS.pushStk (vs:=intsV s.work));(iterate 2 exact rfl);exact (congrArg (fun z=>some (Value.slice A3 z cap3)) (intsV_length s.work).symm);(iterate 2 exact rfl);exact fun B hB=>⟨hB.loc 0 (Nat.lt_succ_self 0),hstk3.up hB.up⟩;exact rfl;(simp only [intsV_length];omega);(simp only [intsV_length];omega);intro B7 hB7 A7 cap7 H7 π7 sH7 hst7 hle7 hoff7 hA7;have hS7:=(hoff7 sb (hB7.dom _ _ (hB7.up _ _ hS3)) hneS).trans (hB7.up _ _ hS3);have hS7n:=sH7.dom _ _ hS7)|refine Y4r ?_|refine Y37 ?_|refine Y1i ?_|refine Y0 ?_|refine Y1 ?_|refine Y6 ?_|refine Yu ?_))
 have e:reachF l s k=⟨s.ins.set k.toNat l,s.seen.set k.toNat true,k::s.work⟩:=by unfold reachF;rw [hseen];rfl
 rw [e]
 refine endsK_normal [] .nil fun B' a=>⟨rfl,?_⟩
 refine reach_close (t:=⟨s.ins.set k.toNat l,s.seen.set k.toNat true,s.work⟩) hd (show h.n≤(C.set nb X).n from a2.le) o3 (fun i hi=>?_) (fun i b hb he hx=>⟨?_,fun j m h1 h2=>?_⟩) hNh (fun i b hb he=>hXk i b (hCk i b hb (by rw [he];decide)) (by rw [he];decide)) (fun i hx=>hx _ _ _ _ _ _ _ (hSS ▸ hS3)) hstk3 hA3 hB7.up hB7.oldH hB7.dom (intsV_cons k s.work).symm hst7 hle7 hoff7 hA7 ⟨_,hS7,rfl⟩ (by rw [← intsV_length s.work];rfl) a.up a.oldH
 ·have hgi:=o.gi
  have hgn:=o.gn
  show (if i=nb then _ else C.m i)=_
  rw [if_neg (by omega),hset i (by omega),if_neg (by omega)]
 ·exact hXk i b (hCk i b hb (by rw [he];decide)) (by rw [he];decide)
 ·have hi:=hd i b hb
  rcases set_get h1 with ⟨e1,e2⟩|⟨e1,e2⟩
  ·omega
  ·rcases set_get h2 with ⟨f1,_⟩|⟨_,f2⟩
   ·exact absurd f1 e1
   ·exact hx j m e2 f2
set_option maxRecDepth 100000 in
theorem reach_nil (sb fb ib nb:Nat) (al:List Nat) (n:Nat) (s:SolS) (k:Int) (A0:Option Addr) (c N:Nat) (h0:0≤k) (h1:k < n) (hnn:n≤100000) (hw:s.work.length≤1000000000000) (hseen:s.seen[k.toNat]?=some false) (h:Hp) (o:SolAt h N sb fb ib nb al n s) :
 EX Tryd.prog 96 [.pointer (some ⟨sb,0,none⟩),.int .i64 k,.slice A0 0 c] h (fun v h'=>v=.tuple #[]∧ReachQ h N sb fb ib nb al n s (reachF [] s k) h'):=by
 refine EX.intro (fn:=Tryd.f96) (c:=(Tryd.f96.body.getD .skip)) Tryd.func96 (by kernel_rfl) Tryd.ntmps96 (by kernel_rfl) fun π s0=>?_
 conv=>arg 2;whnf
 have hd:=s0.dom
 have hnat:k=(k.toNat:Int):=by omega
 have hlt:k.toNat < n:=by omega
 obtain ⟨A,cap,hS,hstk,hA⟩:=o.stk
 have hSn:=hd _ _ hS
 have hI:=o.hi
 have hIn:=hd _ _ hI
 have hNb:=o.hn
 have hNbn:=hd _ _ hNb
 have hIr:rwM≤ib:=Nat.le_trans o.rw o.gi
 have hNbr:rwM≤nb:=Nat.le_trans o.rw o.gn
 have hal:al.length=s.ins.length:=by rw [o.alen,o.ilen]
 have hil:=o.ilen
 have hsl:=o.slen
 have hSr:rwM≤sb:=Nat.le_trans o.rw o.gs
 ((with_reducible apply W.seq);repeat (first|refine Y2a ?_|refine Y1p ?_|refine Yo ?_|refine Y0 ?_|refine Y1 ?_|refine Yu ?_))
 ((with_reducible apply W.seq);repeat (fail))
 ((with_reducible apply W.seq);repeat (first|refine Y2q ?_|refine Y1p ?_|refine Y43 ?_|((with_reducible apply RS.appendNil0);iterate 6 exact rfl)|refine Y1i ?_|refine Y0 ?_|refine Y1 ?_|refine Y6 ?_|refine Yu ?_))
 refine W.absorbX fun C π2 a2=>?_
 have hset:∀ i,i < h.n→C.m i=if i=ib then some ⟨⟨(rowsV al s.ins).set k.toNat (.slice none 0 0)⟩,143⟩ else h.m i:=fun i hi=>a2.old i hi
 have hCi:C.m ib=some ⟨⟨(rowsV al s.ins).set k.toNat (rowVl 2 0 ([]:List FactS))⟩,143⟩:=by
  rw [hset ib hIn,if_pos rfl];rfl
 have hCk:∀ i b,h.m i=some b→b.elem≠143→C.m i=some b:=by
  intro i b hb he
  rw [hset i (hd i b hb),if_neg (ne_of_elem hb hI he)]
  exact hb
 have hNh:N≤h.n:=Nat.le_trans o.gs (Nat.le_of_lt hSn)
 have o2:=o.newRow (k:=k.toNat) (l:=[]) hCi (fun hn=>absurd rfl hn) hCk
 have hNb2:C.m nb=some ⟨⟨s.seen.map .bool⟩,4⟩:=o2.hn
 have hNb2n:=a2.dom _ _ hNb2
 obtain ⟨A2,cap2,hS2,hstk2,hA2⟩:=o2.stk
 have hS2:C.m sb=some ⟨⟨[.pointer (some ⟨fb,0,none⟩),.slice (some ⟨ib,0,none⟩) n n,.slice (some ⟨nb,0,none⟩) n n,.slice A2 s.work.length cap2]⟩,141⟩:=hS2
 have hS2n:=a2.dom _ _ hS2
 obtain ⟨X,hX⟩:∃ X:Blk,X=⟨⟨(s.seen.set k.toNat true).map .bool⟩,4⟩:=⟨_,rfl⟩
 have hXk:∀ i b,C.m i=some b→b.elem≠4→(C.set nb X).m i=some b:=fun i b hb he=>by
  show (if i=nb then _ else C.m i)=_
  rw [if_neg (ne_of_elem hb hNb2 he)];exact hb
 have o3:=o2.setSeen (t:=s.seen.set k.toNat true) (by rw [List.length_set];exact hsl) (show (C.set nb X).m nb=_ by show (if nb=nb then _ else _)=_;rw [if_pos rfl,hX]) hXk
 obtain ⟨A3,cap3,hS3,hstk3,hA3⟩:=o3.stk
 have hS3:(C.set nb X).m sb=some ⟨⟨[.pointer (some ⟨fb,0,none⟩),.slice (some ⟨ib,0,none⟩) n n,.slice (some ⟨nb,0,none⟩) n n,.slice A3 s.work.length cap3]⟩,141⟩:=hS3
 have hstk3:StkRow (C.set nb X) 3 A3 cap3 (intsV s.work):=hstk3
 have hS3n:sb < (C.set nb X).n:=hS2n
 have hneS:A3≠some ⟨sb,0,none⟩:=stk_ne hstk3 hS3 (by simp)
 have hSS:(C.set nb X).m sb=h.m sb:=by rw [hXk sb _ (hCk sb _ hS (by simp)) (by simp),hS]
 ((with_reducible apply W.seq);repeat (first|refine Y1p ?_|((with_reducible apply RS.load1B);(iterate 3 exact rfl);exact hS2;exact hS2n;exact rfl)|refine Y3z ?_|refine Y1i ?_|refine Y0 ?_|refine Y1 ?_|refine Yu ?_))
 rw [← hX]
 ((with_reducible apply W.seq);repeat (first|refine Ym ?_|((with_reducible apply RS.pushStk (vs:=intsV s.work));(iterate 2 exact rfl);exact (congrArg (fun z=>some (Value.slice A3 z cap3)) (intsV_length s.work).symm);(iterate 2 exact rfl);exact fun B hB=>⟨hB.loc 0 (Nat.lt_succ_self 0),hstk3.up hB.up⟩;exact rfl;(simp only [intsV_length];omega);(simp only [intsV_length];omega);intro B7 hB7 A7 cap7 H7 π7 sH7 hst7 hle7 hoff7 hA7;have hS7:=(hoff7 sb (hB7.dom _ _ (hB7.up _ _ hS3)) hneS).trans (hB7.up _ _ hS3);have hS7n:=sH7.dom _ _ hS7)|refine Y4r ?_|refine Y37 ?_|refine Y1i ?_|refine Y0 ?_|refine Y1 ?_|refine Y6 ?_|refine Yu ?_))
 have e:reachF [] s k=⟨s.ins.set k.toNat [],s.seen.set k.toNat true,k::s.work⟩:=by unfold reachF;rw [hseen];rfl
 rw [e]
 refine endsK_normal [] .nil fun B' a=>⟨rfl,?_⟩
 refine reach_close (t:=⟨s.ins.set k.toNat [],s.seen.set k.toNat true,s.work⟩) hd (show h.n≤(C.set nb X).n from a2.le) o3 (fun i hi=>?_) (fun i b hb he hx=>⟨?_,fun j m h1 h2=>?_⟩) hNh (fun i b hb he=>hXk i b (hCk i b hb (by rw [he];decide)) (by rw [he];decide)) (fun i hx=>hx _ _ _ _ _ _ _ (hSS ▸ hS3)) hstk3 hA3 hB7.up hB7.oldH hB7.dom (intsV_cons k s.work).symm hst7 hle7 hoff7 hA7 ⟨_,hS7,rfl⟩ (by rw [← intsV_length s.work];rfl) a.up a.oldH
 ·have hgi:=o.gi
  have hgn:=o.gn
  show (if i=nb then _ else C.m i)=_
  rw [if_neg (by omega),hset i (by omega),if_neg (by omega)]
 ·exact hXk i b (hCk i b hb (by rw [he];decide)) (by rw [he];decide)
 ·have hi:=hd i b hb
  rcases set_get h1 with ⟨e1,e2⟩|⟨e1,e2⟩
  ·rcases set_get h2 with ⟨_,f1⟩|⟨f1,_⟩
   ·exact f1
   ·exact absurd e1 f1
  ·rcases set_get h2 with ⟨f1,_⟩|⟨_,f2⟩
   ·exact absurd f1 e1
   ·exact hx j m e2 f2
theorem eq_facts (a b:FactS):eqVs [.int .i64,.int .i64] (factC a) (factC b)=some (sameF a b):=by
 unfold factC sameF
 show some ((a.kind == b.kind) && ((a.n == b.n) && true))=_
 rw [Bool.and_true]
 congr 1
structure MixI (h:Hp) (q:Nat) (a l:List FactS) (i:Nat) (B:Hp):Prop where
 off:OffS (fun j=>j=q∧l≠[]) h B
 row:l≠[]→B.m q=some ⟨⟨factsC (meetL a (l.take i))⟩,145⟩
set_option maxRecDepth 100000 in
theorem reach_seen (sb fb ib nb:Nat) (al:List Nat) (n:Nat) (s:SolS) (k:Int) (l:List FactS) (A0:Option Addr) (c N:Nat) (h0:0≤k) (h1:k < n) (hnn:n≤100000) (hl:l.length≤1000000) (hw:s.work.length≤1000000000000) (hseen:s.seen[k.toNat]?=some true) (a:List FactS) (ha:s.ins[k.toNat]?=some a) (hal0:a.length=l.length) (h:Hp) (o:SolAt h N sb fb ib nb al n s) (hs:FaAt h A0 l) (hap:∀ x,A0=some x→ApartF al s.ins x.block) :
 EX Tryd.prog 96 [.pointer (some ⟨sb,0,none⟩),.int .i64 k,.slice A0 l.length c] h (fun v h'=>v=.tuple #[]∧ReachQ h N sb fb ib nb al n s (reachF l s k) h'):=by
 refine EX.intro (fn:=Tryd.f96) (c:=(Tryd.f96.body.getD .skip)) Tryd.func96 (by kernel_rfl) Tryd.ntmps96 (by kernel_rfl) fun π s0=>?_
 conv=>arg 2;whnf
 have hd:=s0.dom
 have hnat:k=(k.toNat:Int):=by omega
 have hlt:k.toNat < n:=by omega
 obtain ⟨A,cap,hS0,hstk,hA⟩:=o.stk
 have hS0n:=hd _ _ hS0
 obtain ⟨q,hq⟩:∃ q,al[k.toNat]?=some q:=⟨_,List.getElem?_eq_getElem (by rw [o.alen];exact hlt)⟩
 have hrow0:=rowsV_get hq ha
 have hsl:=o.slen
 have hSr:rwM≤sb:=Nat.le_trans o.rw o.gs
 have hNbr:rwM≤nb:=Nat.le_trans o.rw o.gn
 have hQr0:l≠[]→rwM≤q∧h.m q=some ⟨⟨factsC a⟩,145⟩:=fun hn=>by
  have:=o.row _ _ _ hq ha (fun e=>hn (by rw [e] at hal0;exact List.length_eq_zero_iff.1 hal0.symm))
  exact ⟨Nat.le_trans o.rw this.1,this.2⟩
 have keep:∀ {B:Hp} {i:Nat},MixI h q a l i B→∀ j b,h.m j=some b→b.elem≠145→B.m j=some b:=by
  intro B i hI j b hb he
  rw [hI.off.2 j (hd j b hb) (fun e=>ne_of_elem hb (hQr0 e.2).2 he e.1)]
  exact hb
 have hS:=hS0
 have hSn:=hS0n
 have hNb:=o.hn
 have hNbn:=hd _ _ hNb
 repeat (first|refine Y2a ?_|refine Y1p ?_|refine Y4h ?_|refine Y0 ?_|refine Y13 ?_|refine Y1 ?_|refine Y5 ?_)
 refine W.loopN (X:=Nat) (fun i=>[(0,.pointer (some ⟨sb,0,none⟩)),(1,.int .i64 k),(2,.slice A0 l.length c),(27,.int .i64 (l.length:Int)),(28,.int .i64 (i:Int)),(6,.bool (!sameL (meetL a (l.take i)) a))])
  (fun i B=>i≤l.length∧MixI h q a l i B) (fun i=>l.length - i)
  (fun B' x=>⟨0,?_,⟨Nat.zero_le _,⟨x.oldH.off,fun hn=>?_⟩⟩⟩) ?_
 ·have e0:meetL a (l.take 0)=a:=by cases a<;>rfl
  have e1:sameL a a=true:=(sameL_iff rfl).2 rfl
  rw [e0,e1]
  (repeat' (first|exact trivial|exact rfl|apply And.intro));done
 ·have e0:meetL a (l.take 0)=a:=by cases a<;>rfl
  rw [e0]
  exact x.up _ _ (hQr0 hn).2
 rintro i B π1 sB ⟨hi,hM⟩
 have hS:=keep hM _ _ hS0 (by simp)
 have hSn:=sB.dom _ _ hS
 have hI:=keep hM _ _ o.hi (by simp)
 have hIn:=sB.dom _ _ hI
 by_cases hlt2:i < l.length
 ·have hln:l≠[]:=by intro e;rw [e] at hlt2;exact absurd hlt2 (Nat.not_lt_zero _)
  have han:a≠[]:=by intro e;rw [e] at hal0;exact hln (List.length_eq_zero_iff.1 hal0.symm)
  obtain ⟨fa,hfa⟩:∃ f,a[i]?=some f:=⟨_,List.getElem?_eq_getElem (by omega)⟩
  obtain ⟨fl,hfl⟩:∃ f,l[i]?=some f:=⟨_,List.getElem?_eq_getElem hlt2⟩
  have hcur:=meetL_take_at (l:=l) hfa
  have hcl:i < (meetL a (l.take i)).length:=by rw [meetL_length];omega
  have hQ:=hM.row hln
  have hQn:=sB.dom _ _ hQ
  have hQr:=(hQr0 hln).1
  have hle:0+i * 2+2≤(factsC (meetL a (l.take i))).length:=by rw [factsC_length,meetL_length];omega
  have hleR:0+i * 2+2≤(factsC l).length:=by rw [factsC_length];omega
  have hrow:(rowsV al s.ins)[k.toNat]?=some (.slice (some ⟨q,0,none⟩) a.length (capOf 2)):=by rw [hrow0,rowVl_ne han]
  have hsame:=eq_facts (meetF fa fl) fa
  have hss:=sameL_succ hfa hfl
  cases hs with
  | none=>exact absurd rfl hln
  | some hR0 hRr =>
   rename_i ab
   have hne:ab≠q:=by
    intro e
    have:=hap ⟨ab,0,none⟩ rfl k.toNat a (by rw [e];exact hq) ha
    exact han this
   have hR:B.m ab=some ⟨⟨factsC l⟩,145⟩:=by rw [hM.off.2 ab (hd _ _ hR0) (fun e=>hne e.1)];exact hR0
   have hRn:=sB.dom _ _ hR
   obtain ⟨sm,hsm⟩:∃ b,sameF (meetF fa fl) fa=b:=⟨_,rfl⟩
   rw [hsm] at hsame hss
   cases sm with
   | true =>
    repeat (first|refine Y4s ?_|refine Y1p ?_|refine Y8 ?_|refine Y40 ?_|refine Y50 ?_|((with_reducible apply RS.neqAgg);(iterate 4 exact rfl);exact hsame)|refine Y15 ?_|refine Y3 ?_|refine Yb ?_|refine Ya ?_|refine Y4 ?_|refine Yf ?_|refine Y0 ?_|refine Yj ?_|refine Y1 ?_|refine Y6 ?_|refine Y5 ?_)
    refine roundN_n rfl fun B' x=>⟨i+1,?_,⟨hlt2,⟨hM.off.same x.oldH.off,fun hn=>?_⟩⟩,by omega⟩
    ·rw [hss,Bool.and_true]
     (repeat' (first|exact trivial|exact rfl|apply And.intro));done
    ·rw [meetL_take_succ hfa hfl,sameF_iff.1 hsm,set_same hcur]
     exact x.up _ _ hQ
   | false =>
    repeat (first|refine Y4s ?_|refine Y1p ?_|refine Y8 ?_|refine Y40 ?_|refine Y50 ?_|((with_reducible apply RS.neqAgg);(iterate 4 exact rfl);exact hsame)|((with_reducible apply RS.storeB);(iterate 3 exact rfl);exact hQ;exact hQn;exact hQr;exact hle;(iterate 2 exact rfl);exact factsC_set (f:=meetF fa fl) hcl)|refine Y15 ?_|refine Y3 ?_|refine Yb ?_|refine Ya ?_|refine Y4 ?_|refine Yf ?_|refine Y0 ?_|refine Yj ?_|refine Y1 ?_|refine Y6 ?_)
    refine roundN_n rfl fun B' x=>⟨i+1,?_,⟨hlt2,⟨(hM.off.trans (OffS.set B q _) fun j _ e=>⟨e,hln⟩).same x.oldH.off,fun hn=>?_⟩⟩,by omega⟩
    ·rw [hss,Bool.and_false]
     (repeat' (first|exact trivial|exact rfl|apply And.intro));done
    ·rw [meetL_take_succ hfa hfl]
     exact x.up _ _ (by show (if q=q then _ else _)=_;rw [if_pos rfl])
 ·have hil:i=l.length:=by omega
  subst hil
  rw [List.take_length] at *
  have hNb:=keep hM _ _ o.hn (by simp)
  have hNbn:=sB.dom _ _ hNb
  have hNh:N≤h.n:=Nat.le_trans o.gs (Nat.le_of_lt hS0n)
  have oB:SolAt B N sb fb ib nb al n ⟨s.ins.set k.toNat (meetL a l),s.seen,s.work⟩:=by
   by_cases hln:l=[]
   ·have han:a=[]:=by rw [hln] at hal0;exact List.length_eq_zero_iff.1 hal0
    have e:meetL a l=a:=by rw [han];cases l<;>rfl
    rw [e,set_same ha]
    exact o.up fun j b hb=>by rw [hM.off.2 j (hd j b hb) (fun e=>e.2 hln)];exact hb
   ·have han:a≠[]:=by intro e;rw [e] at hal0;exact hln (List.length_eq_zero_iff.1 hal0.symm)
    have hr:=hM.row hln
    rw [List.take_length] at hr
    exact o.setRow hq ha han (meetL_length a l) hr fun j b hb _ hj=>by rw [hM.off.2 j (hd j b hb) (fun e=>hj e.1)];exact hb
  obtain ⟨X,hX⟩:∃ X:Blk,X=⟨⟨(s.seen.set k.toNat true).map .bool⟩,4⟩:=⟨_,rfl⟩
  have hXk:∀ i b,B.m i=some b→b.elem≠4→(B.set nb X).m i=some b:=fun i b hb he=>by
   show (if i=nb then _ else B.m i)=_
   rw [if_neg (ne_of_elem hb hNb he)];exact hb
  have o3:=oB.setSeen (t:=s.seen.set k.toNat true) (by rw [List.length_set];exact hsl) (show (B.set nb X).m nb=_ by show (if nb=nb then _ else _)=_;rw [if_pos rfl,hX]) hXk
  obtain ⟨A3,cap3,hS3,hstk3,hA3⟩:=o3.stk
  have hS3:(B.set nb X).m sb=some ⟨⟨[.pointer (some ⟨fb,0,none⟩),.slice (some ⟨ib,0,none⟩) n n,.slice (some ⟨nb,0,none⟩) n n,.slice A3 s.work.length cap3]⟩,141⟩:=hS3
  have hstk3:StkRow (B.set nb X) 3 A3 cap3 (intsV s.work):=hstk3
  have hS3n:sb < (B.set nb X).n:=hSn
  have hneS:A3≠some ⟨sb,0,none⟩:=stk_ne hstk3 hS3 (by simp)
  have hSS:(B.set nb X).m sb=h.m sb:=by rw [hXk sb _ hS (by simp),hS0]
  have hkI:∀ i b,h.m i=some b→b.elem=3→(B.set nb X).m i=some b:=fun i b hb he=>hXk i b (keep hM i b hb (by rw [he];decide)) (by rw [he];decide)
  have hlow:∀ i,i < N→(B.set nb X).m i=h.m i:=fun i hi=>by
   have hgn:=o.gn
   show (if i=nb then _ else B.m i)=_
   rw [if_neg (by omega),hM.off.2 i (by omega) (fun e=>by
    have hh:=(o.row _ _ _ hq ha (fun e'=>e.2 (by rw [e'] at hal0;exact List.length_eq_zero_iff.1 hal0.symm))).1
    omega)]
  have hapt:∀ i b,h.m i=some b→b.elem=145→ApartF al s.ins i→(B.set nb X).m i=some b∧ApartF al (s.ins.set k.toNat (meetL a l)) i:=fun i b hb he hx=>by
   refine ⟨hXk i b ?_ (by rw [he];decide),fun j m h1 h2=>?_⟩
   ·rw [hM.off.2 i (hd i b hb) (fun e=>by
     have:=hx k.toNat a (by rw [e.1];exact hq) ha
     rw [this] at hal0
     exact e.2 (List.length_eq_zero_iff.1 hal0.symm))]
    exact hb
   ·rcases set_get h2 with ⟨f1,f2⟩|⟨f1,f2⟩
    ·subst f1
     have:=hx k.toNat a h1 ha
     rw [f2,this];cases l<;>rfl
    ·exact hx j m h1 f2
  obtain ⟨sm,hsm⟩:∃ b,sameL (meetL a l) a=b:=⟨_,rfl⟩
  rw [hsm]
  ((with_reducible apply W.seq);repeat (first|refine Y2 ?_|refine Y0 ?_|refine Y1 ?_|refine Yu ?_))
  ((with_reducible apply W.seq);repeat (first|refine Y46 ?_|refine Y5 ?_|refine Yi ?_))
  ((with_reducible apply W.seq);repeat (first|refine Y2q ?_|refine Y1p ?_|((with_reducible apply RS.storeB);(iterate 3 exact rfl);exact hNb;exact hNbn;exact hNbr;(rw [List.length_map];omega);(iterate 2 exact rfl);exact bools_set _ _ _)|refine Y1i ?_|refine Y0 ?_|refine Y1 ?_|refine Yu ?_))
  rw [← hX]
  cases sm with
  | true =>
   repeat (first|refine Y1m ?_|refine Y0 ?_|refine Y29 ?_|refine Y1 ?_|refine Y5 ?_)
   have hma:meetL a l=a:=(sameL_iff (meetL_length a l)).1 hsm
   have e:reachF l s k=s:=by unfold reachF;rw [hseen,ha];simp [hsm]
   rw [e]
   rw [hma,set_same ha] at hapt o3
   rw [set_same hseen] at o3
   refine endsK_normal [] .nil fun B' x=>⟨rfl,al,o3.up x.up,⟨?_,fun i hi hn=>?_⟩,fun i b hb he hx=>⟨x.up _ _ (hapt i b hb he hx).1,(hapt i b hb he hx).2⟩,fun i b hb he hx=>⟨x.up _ _ (hkI i b hb he),fun f g e A n c el hm=>?_⟩⟩
   ·have h1:B.n≤B'.n:=x.le
    have h2:=hM.off.1
    omega
   ·have h1:B'.m i=(B.set nb X).m i:=x.old i (show i < B.n by have:=hM.off.1;omega)
    rw [h1,hlow i (by omega)]
   ·have h1:=x.up _ _ hS3
    rw [h1,← hS3,hSS] at hm
    exact hx _ _ _ _ _ _ _ hm
  | false =>
   repeat (first|refine Ym ?_|refine Y4r ?_|((with_reducible apply RS.pushStk (vs:=intsV s.work));(iterate 2 exact rfl);exact (congrArg (fun z=>some (Value.slice A3 z cap3)) (intsV_length s.work).symm);(iterate 2 exact rfl);exact fun B hB=>⟨hB.loc 0 (Nat.lt_succ_self 0),hstk3.up hB.up⟩;exact rfl;(simp only [intsV_length];omega);(simp only [intsV_length];omega);intro B7 hB7 A7 cap7 H7 π7 sH7 hst7 hle7 hoff7 hA7;have hS7:=(hoff7 sb (hB7.dom _ _ (hB7.up _ _ hS3)) hneS).trans (hB7.up _ _ hS3);have hS7n:=sH7.dom _ _ hS7)|refine Y37 ?_|refine Y1i ?_|refine Y0 ?_|refine Y3y ?_|refine Y1 ?_|refine Y6 ?_)
   have e:reachF l s k=⟨s.ins.set k.toNat (meetL a l),s.seen.set k.toNat true,k::s.work⟩:=by unfold reachF;rw [hseen,ha,set_same hseen];simp [hsm]
   rw [e]
   refine endsK_normal [] .nil fun B' x=>⟨rfl,?_⟩
   exact reach_close (t:=⟨s.ins.set k.toNat (meetL a l),s.seen.set k.toNat true,s.work⟩) hd (show h.n≤(B.set nb X).n from hM.off.1) o3 hlow hapt hNh hkI (fun i hx=>hx _ _ _ _ _ _ _ (hSS ▸ hS3)) hstk3 hA3 hB7.up hB7.oldH hB7.dom (intsV_cons k s.work).symm hst7 hle7 hoff7 hA7 ⟨_,hS7,rfl⟩ (by rw [← intsV_length s.work];rfl) x.up x.oldH
def FitF (l:List FactS):Prop:=∀ f∈l,fitI f.n
theorem fit0:fitI 0:=⟨by omega,by omega⟩
theorem ofF_fit {l:List FactS} (hl:FitF l) {a:ArgS} (ha:fitI a.num):fitI (ofF l a).n:=by
 unfold ofF
 split
 ·exact ha
 ·cases h:l[a.reg.toNat]? with
  | none=>exact fit0
  | some f=>exact hl f (List.mem_of_getElem? h)
theorem resultF_fit {l:List FactS} (hl:FitF l) {x:InsS} (hx:x.ok):fitI (resultF l x).n:=by
 have ha:=ofF_fit hl hx.a.2
 have hb:=ofF_fit hl hx.b.2
 unfold resultF twoF
 repeat' split
 all_goals first|exact ha|exact fit_widen ha|exact fit0|exact fit_reckon ha
theorem stepF_fit {l:List FactS} (hl:FitF l) {x:InsS} (hx:x.ok):FitF (stepF l x):=by
 unfold stepF
 split
 ·intro f hf
  rcases List.mem_or_eq_of_mem_set hf with h|h
  ·exact hl f h
  ·rw [h];exact resultF_fit hl hx
 ·exact hl
theorem stepsF_fit:∀ (xs:List InsS) (l:List FactS),FitF l→(∀ x∈xs,x.ok)→FitF (xs.foldl stepF l)
 | [],_,hl,_=>hl
 | x::xs,l,hl,hx=>stepsF_fit xs (stepF l x) (stepF_fit hl (hx x (by simp))) fun y hy=>hx y (by simp [hy])
theorem meetF_fit {a b:FactS} (ha:fitI a.n) (hb:fitI b.n):fitI (meetF a b).n:=by
 unfold meetF
 repeat' split
 all_goals first|exact ha|exact hb|exact fit0
theorem meetL_fit:∀ {l m:List FactS},FitF l→FitF m→FitF (meetL l m)
 | a::l,b::m,hl,hm=>by
  intro f hf
  rw [meetL] at hf
  rcases List.mem_cons.1 hf with e|e
  ·rw [e];exact meetF_fit (hl a (by simp)) (hm b (by simp))
  ·exact meetL_fit (fun g hg=>hl g (by simp [hg])) (fun g hg=>hm g (by simp [hg])) f e
 | [],_,hl,_=>by simpa [meetL] using hl
 | _::_,[],hl,_=>by simpa [meetL] using hl
set_option maxRecDepth 100000 in
theorem result_tf (l:List FactS) (A:Option Addr) (c:Nat) (x:InsS) (A2:Option Addr) (c2:Nat) (hl:l.length≤1000000000) (hfl:FitF l) (hx:x.ok) (h:Hp) (hs:FaAt h A l):TF Tryd.prog 80 ⟨[.slice A l.length c,.agg ⟨insC x A2 c2⟩]⟩ h (.agg ⟨factC (resultF l x)⟩) h:=by
 refine TF.dom fun hd=>?_
 have hfb:=ofF_fit hfl hx.b.2
 refine TF.still (fn:=Tryd.f80) (c:=(Tryd.f80.body.getD .skip)) Tryd.func80 (by kernel_rfl) Tryd.ntmps80 (by kernel_rfl) (by simp [factC]) ?_
 conv=>arg 2;whnf
 repeat' (first|refine Y4e ?_|((with_reducible apply RS.callP);(iterate 3 exact rfl);first|exact fun H=>(two_tf _ H);exact Nm_free (by simp)|exact fun H=>(widen_tf _ _ _ H);exact Nm_free (by simp)|exact fun H=>reckon_tf _ _ _ hfb.1 hfb.2 H;exact Nm_free (by simp))|refine Y1v ?_|refine Yh ?_|refine Y9 ?_|refine Y3 ?_|refine Y2 ?_|refine Ye ?_|((with_reducible first|apply RS.extract|apply RS.build);iterate 4 exact rfl)|refine Y7 ?_|refine Ya ?_|refine Y4 ?_|refine Yf ?_|refine Yl ?_|refine Y0 ?_|refine Ys ?_|refine Y1 ?_|refine Y6 ?_|refine Y5 ?_|((refine YD ?_ ?_)<;>intro _)|((refine YG ?_ ?_)<;>intro _)|((refine YC ?_ ?_)<;>intro _)|((refine YN ?_ ?_)<;>intro _))
 all_goals refine endsK_ret _ (.cons (.cellN rfl rfl rfl (Nat.le_of_ble_eq_true rfl)) .nil) ⟨rfl,?_⟩
 all_goals try simp only [bne_iff_ne,ne_eq,bne_eq_false_iff_eq] at *
 all_goals first
  | (have e : resultF l x = ofF l x.a := by unfold resultF; rw [if_pos (by omega)]
     rw [e];rfl)
  | (have e : resultF l x = numF (widenS (ofF l x.a).n x.size x.signed) := by unfold resultF; rw [if_neg (by omega), if_pos (by omega)]
     rw [e];rfl)
  | (have e : resultF l x = noF := by unfold resultF; rw [if_neg (by omega), if_neg (by omega), if_pos (by omega)]
     rw [e];rfl)
  | (have e : resultF l x = numF (reckonS x.op (ofF l x.a).n (ofF l x.b).n).1 := by unfold resultF twoF; rw [if_neg (by omega), if_neg (by omega), if_neg (by omega), if_pos (by assumption), if_pos (by omega), if_pos (by assumption)]
     rw [e];rfl)
  | (have e : resultF l x = anyF := by unfold resultF twoF; rw [if_neg (by omega), if_neg (by omega), if_neg (by omega), if_pos (by assumption), if_pos (by omega), if_neg (by simp_all)]
     rw [e];rfl)
  | (have e : resultF l x = noF := by unfold resultF twoF; rw [if_neg (by omega), if_neg (by omega), if_neg (by omega), if_pos (by assumption), if_neg (by omega), if_pos (by omega)]
     rw [e];rfl)
  | (have e : resultF l x = anyF := by unfold resultF twoF; rw [if_neg (by omega), if_neg (by omega), if_neg (by omega), if_pos (by assumption), if_neg (by omega), if_neg (by omega)]
     rw [e];rfl)
  | (have e : resultF l x = anyF := by unfold resultF; rw [if_neg (by omega), if_neg (by omega), if_neg (by omega), if_neg (by simp_all)]
     rw [e];rfl)
set_option maxRecDepth 100000 in
theorem step_tf (l:List FactS) (A:Option Addr) (c:Nat) (x:InsS) (A2:Option Addr) (c2:Nat) (hl:l.length≤1000000000) (hfl:FitF l) (hx:x.ok) (hdst:x.dst < l.length) (h:Hp) (hs:FaAt h A l):TF Tryd.prog 97 ⟨[.slice A l.length c,.agg ⟨insC x A2 c2⟩]⟩ h (.tuple #[]) (faH h A (stepF l x)):=by
 refine TF.exact (fn:=Tryd.f97) (c:=(Tryd.f97.body.getD .skip)) Tryd.func97 (by kernel_rfl) Tryd.ntmps97 (by kernel_rfl) (fun s0=>⟨(faH_ok s0 hs).1,by simp,(faH_ok s0 hs).2⟩) fun π s0=>?_
 conv=>arg 2;whnf
 have hd:=s0.dom
 by_cases h0:0≤x.dst
 ·have hnat:x.dst=(x.dst.toNat:Int):=by omega
  have hlt:x.dst.toNat < l.length:=by omega
  have hle:0+x.dst.toNat * 2+2≤(factsC l).length:=by rw [factsC_length];omega
  have e:stepF l x=l.set x.dst.toNat (resultF l x):=by unfold stepF;rw [if_pos h0]
  rw [e]
  cases hs with
  | none=>exact absurd hlt (Nat.not_lt_zero _)
  | some hm hr =>
   rename_i b
   have hn:=hd _ _ hm
   have hs0:FaAt h (some ⟨b,0,none⟩) l:=.some hm hr
   repeat (first|((with_reducible apply RS.callB);(iterate 3 exact rfl);exact fun H hH=>result_tf l _ c x A2 c2 hl hfl hx H (hs0.up (base_up hd hH));exact Nm_free (by simp [factC]))|refine Y1p ?_|((with_reducible apply RS.storeB);(iterate 3 exact rfl);exact hm;exact hn;exact hr;exact hle;(iterate 2 exact rfl);exact factsC_set hlt)|((with_reducible first|apply RS.move|apply RS.fieldAddr|apply RS.box);iterate 3 exact rfl)|refine Y3 ?_|refine Y7 ?_|refine Ya ?_|refine Y0 ?_|refine Y3y ?_|refine Y1 ?_|refine Y6 ?_)
   exact endsK_normal [] .nil (fun B' a=>⟨rfl,a.up⟩)
 ·have e:stepF l x=l:=by unfold stepF;rw [if_neg h0]
  rw [e,faH_same hs]
  repeat (first|refine Y2 ?_|((with_reducible first|apply RS.fieldAddr|apply RS.box);iterate 3 exact rfl)|refine Y7 ?_|refine Y0 ?_|refine Y29 ?_|refine Y1 ?_|refine Y5 ?_)
  repeat' ((first|((refine YD ?_ ?_)<;>intro _)|((refine YG ?_ ?_)<;>intro _)|((refine YC ?_ ?_)<;>intro _)|((refine YN ?_ ?_)<;>intro _))<;>repeat (fail))
  all_goals exact endsK_normal [] .nil (fun B' a=>⟨rfl,a.up⟩)
theorem reach_ex (sb fb ib nb:Nat) (al:List Nat) (n:Nat) (s:SolS) (k:Int) (l:List FactS) (A0:Option Addr) (c N r:Nat) (h0:0≤k) (h1:k < n) (hnn:n≤100000) (hl:l.length≤1000000) (hw:s.work.length≤1000000000000) (w:SolW n r s) (hlr:l.length=r) (h:Hp) (o:SolAt h N sb fb ib nb al n s) (hs:FaAt h A0 l) (hap:∀ x,A0=some x→ApartF al s.ins x.block) :
 EX Tryd.prog 96 [.pointer (some ⟨sb,0,none⟩),.int .i64 k,.slice A0 l.length c] h (fun v h'=>v=.tuple #[]∧ReachQ h N sb fb ib nb al n s (reachF l s k) h'):=by
 obtain ⟨a,ha⟩:∃ a,s.ins[k.toNat]?=some a:=⟨_,List.getElem?_eq_getElem (by rw [o.ilen];omega)⟩
 rcases seen_some (l:=s.seen) (k:=k.toNat) (by rw [o.slen];omega) with hse|hse
 ·exact reach_seen sb fb ib nb al n s k l A0 c N h0 h1 hnn hl hw hse a ha ((w.wid _ _ ha hse).trans hlr.symm) h o hs hap
 ·by_cases hln:l=[]
  ·subst hln
   exact reach_nil sb fb ib nb al n s k A0 c N h0 h1 hnn hw hse h o
  ·cases hs with
   | none=>exact absurd rfl hln
   | some hm hr=>exact reach_new sb fb ib nb al n s k l _ c N h0 h1 hnn hl hw hse (List.length_pos_iff.2 hln) h o hm
def WfF (l:List FactS):Prop:=∀ f∈l,f=anyF∨f.kind=1
theorem ofF_wf {l:List FactS} (hl:WfF l) (a:ArgS):ofF l a=anyF∨(ofF l a).kind=1:=by
 unfold ofF
 split
 ·exact .inr rfl
 ·cases h:l[a.reg.toNat]? with
  | none=>exact .inl rfl
  | some f=>exact hl f (List.mem_of_getElem? h)
theorem resultF_wf {l:List FactS} (hl:WfF l) (x:InsS):resultF l x=anyF∨(resultF l x).kind=1:=by
 have ha:=ofF_wf hl x.a
 have hb:=ofF_wf hl x.b
 have na:(ofF l x.a).kind≠0:=by
  rcases ha with e|e
  ·rw [e];decide
  ·omega
 unfold resultF
 split
 ·exact ha
 ·split
  ·exact .inr rfl
  ·split
   ·rename_i h;exact absurd h.2 na
   ·split
    ·unfold twoF
     split
     ·split
      ·exact .inr rfl
      ·exact .inl rfl
     ·split
      ·rename_i h1 h2
       rcases ha with e|e
       ·exact absurd (by rw [e];rfl) h2.1
       ·rcases hb with e'|e'
        ·exact absurd (by rw [e'];rfl) h2.2
        ·exact absurd ⟨e,e'⟩ h1
      ·exact .inl rfl
    ·exact .inl rfl
theorem stepF_wf {l:List FactS} (hl:WfF l) (x:InsS):WfF (stepF l x):=by
 unfold stepF
 split
 ·intro f hf
  rcases List.mem_or_eq_of_mem_set hf with h|h
  ·exact hl f h
  ·rw [h];exact resultF_wf hl x
 ·exact hl
theorem stepsF_wf:∀ (xs:List InsS) (l:List FactS),WfF l→WfF (xs.foldl stepF l)
 | [],_,hl=>hl
 | x::xs,l,hl=>stepsF_wf xs (stepF l x) (stepF_wf hl x)
def rankF (f:FactS):Nat:=if f.kind=1 then 1 else 0
def rankL (l:List FactS):Nat:=(l.map rankF).sum
theorem rankF_le (f:FactS):rankF f≤1:=by unfold rankF;split<;>omega
theorem rankL_le (l:List FactS):rankL l≤l.length:=by
 induction l with
 | nil=>exact Nat.le_refl _
 | cons f l ih =>
  unfold rankL at *
  have:=rankF_le f
  simp only [List.map_cons,List.sum_cons,List.length_cons]
  omega
theorem meetF_wf {a b:FactS} (ha:a=anyF∨a.kind=1) (hb:b=anyF∨b.kind=1):(meetF a b=anyF∨(meetF a b).kind=1)∧rankF (meetF a b)≤rankF a∧(meetF a b≠a→rankF (meetF a b) < rankF a):=by
 have na:a.kind≠0:=by
  rcases ha with e|e
  ·rw [e];decide
  ·omega
 have nb:b.kind≠0:=by
  rcases hb with e|e
  ·rw [e];decide
  ·omega
 unfold meetF
 rw [if_neg na,if_neg nb]
 split
 ·exact ⟨ha,Nat.le_refl _,fun h=>absurd rfl h⟩
 ·refine ⟨.inl rfl,Nat.zero_le _,fun h=>?_⟩
  rcases ha with e|e
  ·exact absurd e.symm h
  ·show 0 < rankF a
   unfold rankF
   rw [if_pos e];omega
theorem meetL_wf:∀ {l m:List FactS},WfF l→WfF m→WfF (meetL l m)∧rankL (meetL l m)≤rankL l∧(meetL l m≠l→rankL (meetL l m) < rankL l)
 | a::l,b::m,hl,hm=>by
  obtain ⟨h1,h2,h3⟩:=meetL_wf (l:=l) (m:=m) (fun f hf=>hl f (by simp [hf])) (fun f hf=>hm f (by simp [hf]))
  obtain ⟨g1,g2,g3⟩:=meetF_wf (hl a (by simp)) (hm b (by simp))
  unfold rankL at *
  rw [meetL]
  simp only [List.map_cons,List.sum_cons]
  refine ⟨fun f hf=>?_,by omega,fun hne=>?_⟩
  ·rcases List.mem_cons.1 hf with e|e
   ·rw [e];exact g1
   ·exact h1 f e
  ·by_cases e:meetF a b=a
   ·have:meetL l m≠l:=fun e'=>hne (by rw [e,e'])
    have:=h3 this
    omega
   ·have:=g3 e
    omega
 | [],_,hl,_=>by
  have e:meetL [] ‹List FactS›=[]:=by cases ‹List FactS›<;>rfl
  rw [e];exact ⟨hl,Nat.le_refl _,fun h=>absurd rfl h⟩
 | _::_,[],hl,_=>⟨hl,Nat.le_refl _,fun h=>absurd rfl h⟩
def costV (r:Nat):List (List FactS)→List Bool→List Nat
 | l::ls,b::bs=>(if b=true then rankL l else r+1)::costV r ls bs
 | _,_=>[]
theorem costV_get {r:Nat}:∀ {ls:List (List FactS)} {bs:List Bool} {i:Nat} {l:List FactS} {b:Bool},ls[i]?=some l→bs[i]?=some b→(costV r ls bs)[i]?=some (if b=true then rankL l else r+1)
 | _::_,_::_,0,_,_,h1,h2=>by
  simp only [List.getElem?_cons_zero,Option.some.injEq] at h1 h2
  subst h1;subst h2;rfl
 | _::_,_::_,i+1,_,_,h1,h2=>by
  rw [costV,List.getElem?_cons_succ]
  exact costV_get (by simpa using h1) (by simpa using h2)
 | [],_,_,_,_,h1,_=>by simp at h1
 | _::_,[],_,_,_,_,h2=>by simp at h2
theorem costV_set {r:Nat}:∀ {ls:List (List FactS)} {bs:List Bool} (i:Nat) (l:List FactS),ls.length=bs.length→costV r (ls.set i l) (bs.set i true)=(costV r ls bs).set i (rankL l)
 | [],[],_,_,_=>rfl
 | _::_,_::_,0,_,_=>rfl
 | _::ls,_::bs,i+1,l,h=>by simp [costV,costV_set (r:=r) (ls:=ls) (bs:=bs) i l (by simpa using h)]
def leftS (r:Nat) (s:SolS):Nat:=2 * (costV r s.ins s.seen).sum+s.work.length
structure GoodS (s:SolS):Prop where
 fit:∀ l∈s.ins,FitF l
 wf:∀ l∈s.ins,WfF l
theorem reachF_left {n r:Nat} {s:SolS} (w:SolW n r s) (g:GoodS s) {l:List FactS} (hl:l.length=r) (hf:FitF l) (hw:WfF l) {k:Int} (h0:0≤k) (h1:k < n):GoodS (reachF l s k)∧leftS r (reachF l s k)≤leftS r s:=by
 have hk:k.toNat < n:=by omega
 obtain ⟨a,ha⟩:∃ a,s.ins[k.toNat]?=some a:=⟨_,List.getElem?_eq_getElem (by rw [w.ins];exact hk)⟩
 have ham:=List.mem_of_getElem? ha
 have hlen:s.ins.length=s.seen.length:=by rw [w.ins,w.seen]
 unfold reachF
 rw [ha]
 rcases seen_some (l:=s.seen) (k:=k.toNat) (by rw [w.seen];exact hk) with hs|hs
 ·rw [hs]
  simp only [Option.getD_some,if_pos]
  split
  ·exact ⟨g,Nat.le_refl _⟩
  ·rename_i hne
   obtain ⟨m1,m2,m3⟩:=meetL_wf (g.wf a ham) hw
   have hne:meetL a l≠a:=fun e=>hne ((sameL_iff (meetL_length a l)).2 e)
   refine ⟨⟨fun x hx=>?_,fun x hx=>?_⟩,?_⟩
   ·rcases List.mem_or_eq_of_mem_set hx with h|h
    ·exact g.fit x h
    ·rw [h];exact meetL_fit (g.fit a ham) hf
   ·rcases List.mem_or_eq_of_mem_set hx with h|h
    ·exact g.wf x h
    ·rw [h];exact m1
   ·have hc:=costV_get (r:=r) ha hs
    have hset:=costV_set (r:=r) (ls:=s.ins) (bs:=s.seen) k.toNat (meetL a l) hlen
    rw [set_same hs] at hset
    have hsum:=sum_set (v:=rankL (meetL a l)) hc
    rw [if_pos rfl] at hsum
    have:=m3 hne
    unfold leftS
    simp only [hset,List.length_cons]
    omega
 ·rw [hs]
  simp only [Option.getD_some,Bool.false_eq_true,if_false]
  refine ⟨⟨fun x hx=>?_,fun x hx=>?_⟩,?_⟩
  ·rcases List.mem_or_eq_of_mem_set hx with h|h
   ·exact g.fit x h
   ·rw [h];exact hf
  ·rcases List.mem_or_eq_of_mem_set hx with h|h
   ·exact g.wf x h
   ·rw [h];exact hw
  ·have hc:=costV_get (r:=r) ha hs
   have hset:=costV_set (r:=r) (ls:=s.ins) (bs:=s.seen) k.toNat l hlen
   have hsum:=sum_set (v:=rankL l) hc
   rw [if_neg (by simp)] at hsum
   have:=rankL_le l
   unfold leftS
   simp only [hset,List.length_cons]
   omega
theorem leftS_pop {r:Nat} {s:SolS} {k:Int} {w:List Int} (h:s.work=k::w):leftS r ⟨s.ins,s.seen,w⟩+1=leftS r s:=by
 unfold leftS
 rw [h]
 simp only [List.length_cons]
 omega
theorem costV_le (r:Nat):∀ (ls:List (List FactS)) (bs:List Bool),(∀ l∈ls,l.length≤r)→(costV r ls bs).sum≤ls.length * (r+1)
 | [],_,_=>by simp [costV]
 | _::_,[],_=>by simp [costV]
 | l::ls,b::bs,h=>by
  have ih:=costV_le r ls bs fun x hx=>h x (by simp [hx])
  have h1:=rankL_le l
  have h2:=h l (by simp)
  rw [costV,List.sum_cons,List.length_cons,Nat.succ_mul]
  split<;>omega
theorem InRow.none {h:Hp}:InRow h none 0 0 []:=⟨SlAt.nil,rfl,Nat.le_refl _,by decide,fun _=>rfl,fun a ha=>by cases ha⟩
structure FuelOK (a b:RunS) (f:Int):Prop where
 out:∃ x,b.out=x++a.out
 leaks:∃ x,b.leaks=x++a.leaks
 steps:a.steps≤f
 same:a.fin≠42→a.fin=b.fin∧a.exit=b.exit∧a.steps=b.steps
 nout:a.out.length≤100000000∧b.out.length≤100000000
 nleaks:a.leaks.length≤100000000∧b.leaks.length≤100000000
structure RunBd (a:RunS) (f:Int):Prop where
 steps:a.steps≤f
 out:a.out.length≤100000000
 leaks:a.leaks.length≤100000000
theorem runR_bd (B:Hp) (hd:∀ i b,B.m i=some b→i < B.n) (p:ProgS) (hok:p.ok) (hL:LightP p) (pb:Nat) (pe:TypeId) (P1:Option Addr) (d1:Nat) (P2:Option Addr) (d2:Nat) (hp:ProgAt B pb p pe P1 d1 P2 d2) (pub sec:List Int) (fuel:Int) (hf:0≤fuel∧fuel≤1000000) (N:Nat) (hN:fuel < N):RunBd (runR p N pub sec fuel) fuel:=by
 unfold runR
 by_cases hr:rightP p=true
 ·rw [if_pos hr]
  have hR:=hL.run hok hr
  unfold rightP at hr
  simp only [Bool.and_eq_true,decide_eq_true_eq] at hr
  obtain ⟨⟨⟨⟨r1,r2⟩,r3⟩,r4⟩,r5⟩:=hr
  obtain ⟨n,hn⟩:∃ n:Nat,p.data=n:=⟨p.data.toNat,by omega⟩
  have hdl:(dataS p pub sec).length=n:=by rw [dataS_len,hn];rfl
  unfold runS
  generalize hstk:List.replicate 416000 (0:Int)=stk
  have hlen:stk.length=416000:=by rw [← hstk];exact List.length_replicate
  clear hstk
  obtain ⟨h1,_,h3⟩:=(call_all B hd p hR pb pe P1 d1 P2 d2 hp N 101 (startS fuel (dataS p pub sec) stk) p.main [] ⟨⟨by show (dataS p pub sec).length≤_;omega,by show stk.length≤_;omega,⟨Int.le_refl _,hf.1⟩,hf.2,by show ((0:Nat):Int)≤0;omega,by show ((0:Nat):Int)≤0;omega,⟨by show (0:Int)≤0;omega,by show (0:Int)≤101;omega⟩⟩,rfl,hlen,by show (134217728 - 4032 * 0:Int)≤134217728;omega,Int.le_refl _,by show (101:Int)≤0+101;omega,by show (0:Int)≤100;omega,by show fuel - 0 < N;omega⟩ (by rw [r1];rfl) (fun a ha=>by cases ha)).2
  generalize callK p N 101 (startS fuel (dataS p pub sec) stk) p.main []=r at *
  have hfu:r.2.fuel=fuel:=h3.fuel
  have a1:=h1.steps
  have a2:=h1.out
  have a3:=h1.leaks
  unfold endS
  split
  ·exact ⟨by show r.2.steps≤fuel;omega,by show r.2.out.length≤_;omega,by show r.2.leaks.length≤_;omega⟩
  ·exact ⟨by omega,by omega,by omega⟩
 ·rw [if_neg hr]
  exact ⟨hf.1,by decide,by decide⟩
theorem flat_at {α:Type} {w:α→List Value} {sz b:Nat} {e:TypeId} {H:Hp} {R:List Value→α→Prop} (hww:∀ a,(w a).length=sz) (hR:∀ a,R (w a) a) (l1 l2:List α) (hm:H.m b=some ⟨⟨((l1++l2).map w).flatten⟩,e⟩):SlAt H (some ⟨b,0,none⟩) sz l1 R:=by
 have hwid:∀ c∈(l1++l2).map w,c.length=sz:=by intro c hc;obtain ⟨_,_,rfl⟩:=List.mem_map.1 hc;exact hww _
 refine ⟨fun i x hx=>⟨b,0,_,e,rfl,hm,?_,?_⟩⟩
 ·have hi:=(List.getElem?_eq_some_iff.1 hx).1
  rw [flat_len hwid,List.length_map,List.length_append]
  have:(i+1) * sz≤(l1.length+l2.length) * sz:=Nat.mul_le_mul_right _ (by omega)
  rw [Nat.succ_mul] at this;omega
 ·have hi:=(List.getElem?_eq_some_iff.1 hx).1
  have ha:((l1++l2).map w)[i]?=some (w x):=by rw [List.getElem?_map,List.getElem?_append_left hi,hx];rfl
  have:takeV (0+i * sz) sz ((l1++l2).map w).flatten=w x:=by
   rw [takeV_eq]
   apply List.ext_getElem?
   intro j
   rw [List.getElem?_take]
   by_cases hj:j < sz
   ·rw [if_pos hj,List.getElem?_drop,Nat.zero_add,flat_get hwid i j hj,ha];rfl
   ·rw [if_neg hj,List.getElem?_eq_none (by rw [hww];omega)]
  rw [this];exact hR x
theorem row_at {α:Type} {w:α→List Value} {sz b:Nat} {e:TypeId} {H:Hp} {R:List Value→α→Prop} (hww:∀ a,(w a).length=sz) (hR:∀ a,R (w a) a) (x l:List α) (hm:H.m b=rowBk w e (x++l)):SlAt H (if x++l=[] then none else some ⟨b,0,none⟩) sz l.reverse R:=by
 by_cases h:x++l=[]
 ·have:l=[]:=by simp at h;exact h.2
  subst this;exact SlAt.nil
 ·rw [if_neg h]
  rw [rowBk_some h,List.reverse_append] at hm
  exact flat_at hww hR _ _ hm
end Go.Proofs.YtjhloakacicdiaaDoor
