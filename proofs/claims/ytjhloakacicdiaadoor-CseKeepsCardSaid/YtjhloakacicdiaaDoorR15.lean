/-
  What the functions that the law reaches compute,told by plain data;it holds of programs that pass the check of right form and are light.
-/
import Derived.Test.YtjhloakacicdiaaDoorR11
import Derived.Test.YtjhloakacicdiaaDoorR13
import Derived.Test.YtjhloakacicdiaaDoorR14
import Derived.Test.YtjhloakacicdiaaDoorR9
import Derived.Test.YtjhloakacicdiaaDoorS2
set_option linter.unusedVariables false
set_option linter.unusedSimpArgs false
namespace Go.Proofs.YtjhloakacicdiaaDoor
open Go.AH
attribute [local irreducible] W RS
instance tyP_fact:TyP Tryd.prog 145 [.int .i64,.int .i64]:=⟨by kernel_rfl⟩
def ApartF (al:List Nat) (ins:List (List FactS)) (i:Nat):Prop:=∀ (j:Nat) (l:List FactS),al[j]?=some i→ins[j]?=some l→l=[]
def ApartW (h:Hp) (sb i:Nat):Prop:=∀ (f g e:Value) (A:Option Addr) (n c:Nat) (el:TypeId),h.m sb=some ⟨⟨[f,g,e,.slice A n c]⟩,el⟩→A≠some ⟨i,0,none⟩
def ReachQ (h:Hp) (N sb fb ib nb:Nat) (al:List Nat) (n:Nat) (s t:SolS) (h':Hp):Prop :=
 ∃ al',SolAt h' N sb fb ib nb al' n t∧OffS (fun i=>N≤i) h h'∧(∀ i b,h.m i=some b→b.elem=145→ApartF al s.ins i→h'.m i=some b∧ApartF al' t.ins i)∧∀ i b,h.m i=some b→b.elem=3→ApartW h sb i→h'.m i=some b∧ApartW h' sb i
structure MixI (h:Hp) (q:Nat) (a l:List FactS) (i:Nat) (B:Hp):Prop where
 off:OffS (fun j=>j=q∧l≠[]) h B
 row:l≠[]→B.m q=some ⟨⟨factsC (meetL a (l.take i))⟩,145⟩
def FitF (l:List FactS):Prop:=∀ f∈l,fitI f.n
theorem fit0:fitI 0:=⟨by omega,by omega⟩
def WfF (l:List FactS):Prop:=∀ f∈l,f=anyF∨f.kind=1
def rankF (f:FactS):Nat:=if f.kind=1 then 1 else 0
def rankL (l:List FactS):Nat:=(l.map rankF).sum
def costV (r:Nat):List (List FactS)→List Bool→List Nat
 | l::ls,b::bs=>(if b=true then rankL l else r+1)::costV r ls bs
 | _,_=>[]
def leftS (r:Nat) (s:SolS):Nat:=2 * (costV r s.ins s.seen).sum+s.work.length
structure GoodS (s:SolS):Prop where
 fit:∀ l∈s.ins,FitF l
 wf:∀ l∈s.ins,WfF l
structure FuelOK (a b:RunS) (f:Int):Prop where
 out:∃ x,b.out=x++a.out
 leaks:∃ x,b.leaks=x++a.leaks
 steps:a.steps≤f
 same:a.fin≠42→a.fin=b.fin∧a.exit=b.exit∧a.steps=b.steps
 nout:a.out.length≤100000000∧b.out.length≤100000000
 nleaks:a.leaks.length≤100000000∧b.leaks.length≤100000000
structure RunBd (a:RunS) (f:Int):Prop where
 steps:a.steps≤f
 out:a.out.length≤100000000
 leaks:a.leaks.length≤100000000
theorem runR_bd (B:Hp) (hd:∀ i b,B.m i=some b→i < B.n) (p:ProgS) (hok:p.ok) (hL:LightP p) (pb:Nat) (pe:TypeId) (P1:Option Addr) (d1:Nat) (P2:Option Addr) (d2:Nat) (hp:ProgAt B pb p pe P1 d1 P2 d2) (pub sec:List Int) (fuel:Int) (hf:0≤fuel∧fuel≤1000000) (N:Nat) (hN:fuel < N):RunBd (runR p N pub sec fuel) fuel:=by
 unfold runR
 by_cases hr:rightP p=true
 ·rw [if_pos hr]
  have hR:=hL.run hok hr
  unfold rightP at hr
  simp only [Bool.and_eq_true,decide_eq_true_eq] at hr
  obtain ⟨⟨⟨⟨r1,r2⟩,r3⟩,r4⟩,r5⟩:=hr
  obtain ⟨n,hn⟩:∃ n:Nat,p.data=n:=⟨p.data.toNat,by omega⟩
  have hdl:(dataS p pub sec).length=n:=by rw [dataS_len,hn];rfl
  unfold runS
  generalize hstk:List.replicate 416000 (0:Int)=stk
  have hlen:stk.length=416000:=by rw [← hstk];exact List.length_replicate
  clear hstk
  obtain ⟨h1,_,h3⟩:=(call_all B hd p hR pb pe P1 d1 P2 d2 hp N 101 (startS fuel (dataS p pub sec) stk) p.main [] ⟨⟨by show (dataS p pub sec).length≤_;omega,by show stk.length≤_;omega,⟨Int.le_refl _,hf.1⟩,hf.2,by show ((0:Nat):Int)≤0;omega,by show ((0:Nat):Int)≤0;omega,⟨by show (0:Int)≤0;omega,by show (0:Int)≤101;omega⟩⟩,rfl,hlen,by show (134217728 - 4032 * 0:Int)≤134217728;omega,Int.le_refl _,by show (101:Int)≤0+101;omega,by show (0:Int)≤100;omega,by show fuel - 0 < N;omega⟩ (by rw [r1];rfl) (fun a ha=>by cases ha)).2
  generalize callK p N 101 (startS fuel (dataS p pub sec) stk) p.main []=r at *
  have hfu:r.2.fuel=fuel:=h3.fuel
  have a1:=h1.steps
  have a2:=h1.out
  have a3:=h1.leaks
  unfold endS
  split
  ·exact ⟨by show r.2.steps≤fuel;omega,by show r.2.out.length≤_;omega,by show r.2.leaks.length≤_;omega⟩
  ·exact ⟨by omega,by omega,by omega⟩
 ·rw [if_neg hr]
  exact ⟨hf.1,by decide,by decide⟩
theorem flat_at {α:Type} {w:α→List Value} {sz b:Nat} {e:TypeId} {H:Hp} {R:List Value→α→Prop} (hww:∀ a,(w a).length=sz) (hR:∀ a,R (w a) a) (l1 l2:List α) (hm:H.m b=some ⟨⟨((l1++l2).map w).flatten⟩,e⟩):SlAt H (some ⟨b,0,none⟩) sz l1 R:=by
 have hwid:∀ c∈(l1++l2).map w,c.length=sz:=by intro c hc;obtain ⟨_,_,rfl⟩:=List.mem_map.1 hc;exact hww _
 refine ⟨fun i x hx=>⟨b,0,_,e,rfl,hm,?_,?_⟩⟩
 ·have hi:=(List.getElem?_eq_some_iff.1 hx).1
  rw [flat_len hwid,List.length_map,List.length_append]
  have:(i+1) * sz≤(l1.length+l2.length) * sz:=Nat.mul_le_mul_right _ (by omega)
  rw [Nat.succ_mul] at this;omega
 ·have hi:=(List.getElem?_eq_some_iff.1 hx).1
  have ha:((l1++l2).map w)[i]?=some (w x):=by rw [List.getElem?_map,List.getElem?_append_left hi,hx];rfl
  have:takeV (0+i * sz) sz ((l1++l2).map w).flatten=w x:=by
   rw [takeV_eq]
   apply List.ext_getElem?
   intro j
   rw [List.getElem?_take]
   by_cases hj:j < sz
   ·rw [if_pos hj,List.getElem?_drop,Nat.zero_add,flat_get hwid i j hj,ha];rfl
   ·rw [if_neg hj,List.getElem?_eq_none (by rw [hww];omega)]
  rw [this];exact hR x
theorem row_at {α:Type} {w:α→List Value} {sz b:Nat} {e:TypeId} {H:Hp} {R:List Value→α→Prop} (hww:∀ a,(w a).length=sz) (hR:∀ a,R (w a) a) (x l:List α) (hm:H.m b=rowBk w e (x++l)):SlAt H (if x++l=[] then none else some ⟨b,0,none⟩) sz l.reverse R:=by
 by_cases h:x++l=[]
 ·have:l=[]:=by simp at h;exact h.2
  subst this;exact SlAt.nil
 ·rw [if_neg h]
  rw [rowBk_some h,List.reverse_append] at hm
  exact flat_at hww hR _ _ hm
end Go.Proofs.YtjhloakacicdiaaDoor
