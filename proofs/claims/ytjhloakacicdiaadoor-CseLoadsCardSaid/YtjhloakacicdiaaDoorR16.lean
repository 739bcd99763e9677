/-
  What the functions that the law reaches compute,told by plain data;it holds of programs that pass the check of right form and are light.
-/
import Derived.Test.YtjhloakacicdiaaDoorR12
import Derived.Test.YtjhloakacicdiaaDoorR15
import Derived.Test.YtjhloakacicdiaaDoorR6
set_option linter.unusedVariables false
set_option linter.unusedSimpArgs false
namespace Go.Proofs.YtjhloakacicdiaaDoor
open Go.AH
attribute [local irreducible] W RS
def mixL {α:Type} (a b:List α) (k:Nat):List α:=a.take k++b.drop k
theorem mixL_zero {α:Type} (a b:List α):mixL a b 0=b:=by simp [mixL]
theorem mixL_all {α:Type} {a b:List α} (h:a.length=b.length):mixL a b b.length=a:=by
 unfold mixL
 rw [← h,List.take_length,h,List.drop_length,List.append_nil]
theorem mixL_length {α:Type} {a b:List α} (h:a.length=b.length) (k:Nat):(mixL a b k).length=b.length:=by
 unfold mixL
 simp;omega
theorem mixL_get {α:Type} {a b:List α} (h:a.length=b.length) (k i:Nat):(mixL a b k)[i]?=if i < k then a[i]? else b[i]?:=by
 unfold mixL
 by_cases hk:k≤a.length
 ·by_cases hi:i < k
  ·rw [if_pos hi,List.getElem?_append_left (by simp;omega),List.getElem?_take,if_pos hi]
  ·rw [if_neg hi,List.getElem?_append_right (by simp;omega),List.getElem?_drop]
   congr 1
   simp;omega
 ·rw [List.take_of_length_le (by omega),List.drop_eq_nil_of_le (by omega),List.append_nil]
  split
  ·rfl
  ·rw [List.getElem?_eq_none_iff.2 (by omega),List.getElem?_eq_none_iff.2 (by omega)]
theorem mixL_at {α:Type} {a b:List α} (h:a.length=b.length) (k:Nat):(mixL a b k)[k]?=b[k]?:=by rw [mixL_get h,if_neg (Nat.lt_irrefl _)]
theorem mixL_set {α:Type} {a b:List α} (h:a.length=b.length) {k:Nat} {x:α} (hx:a[k]?=some x):(mixL a b k).set k x=mixL a b (k+1):=by
 have hk:=(List.getElem?_eq_some_iff.1 hx).1
 apply List.ext_getElem?
 intro i
 rw [List.getElem?_set,mixL_length h,mixL_get h,mixL_get h]
 by_cases e:k=i
 ·subst e
  rw [if_pos rfl,if_pos (by omega),if_pos (by omega),hx]
 ·rw [if_neg e]
  by_cases h1:i < k
  ·rw [if_pos h1,if_pos (by omega)]
  ·rw [if_neg h1,if_neg (by omega)]
structure OwnA (h:Hp) (N bb:Nat) (bv:List BV):Prop where
 rw:rwM≤N
 ge:N≤bb
 m:h.m bb=some ⟨⟨(bv.map BV.c).flatten⟩,50⟩
 row:∀ b∈bv,b.ins≠[]→N≤b.r∧h.m b.r=some ⟨⟨(b.ins.map insVC).flatten⟩,58⟩
 arg:∀ b∈bv,∀ x∈b.ins,x.1.args≠[]→N≤x.2∧h.m x.2=some ⟨⟨argsC x.1.args⟩,46⟩
 sep:∀ (i j:Nat) (x y:BV),bv[i]?=some x→bv[j]?=some y→x.ins≠[]→y.ins≠[]→x.r=y.r→i=j
 sepA:∀ (i j k m:Nat) (x y:BV) (u v:InsV),bv[i]?=some x→bv[j]?=some y→x.ins[k]?=some u→y.ins[m]?=some v→u.1.args≠[]→v.1.args≠[]→u.2=v.2→i=j∧k=m
theorem OwnD.ownA {h:Hp} {N bb:Nat} {bv:List BV} (o:OwnD h N bv) (hN:rwM≤N) (hb:N≤bb) (hm:h.m bb=some ⟨⟨(bv.map BV.c).flatten⟩,50⟩):OwnA h N bb bv:=by
 have ow:=o.own hN (Nat.le_trans hN hb) hm
 refine ⟨hN,hb,hm,o.row,o.arg,ow.sep,?_⟩
 obtain ⟨p1,p2⟩:=List.pairwise_flatMap.1 o.sepA
 have lt:∀ (i j k m:Nat) (x y:BV) (u v:InsV),i < j→bv[i]?=some x→bv[j]?=some y→x.ins[k]?=some u→y.ins[m]?=some v→u.1.args≠[]→v.1.args≠[]→u.2 < v.2:=by
  intro i j k m x y u v hij hx hy hu hv h1 h2
  obtain ⟨hi,hx'⟩:=List.getElem?_eq_some_iff.1 hx
  obtain ⟨hj,hy'⟩:=List.getElem?_eq_some_iff.1 hy
  have:=List.pairwise_iff_getElem.1 p2 i j hi hj hij
  rw [hx',hy'] at this
  exact this u (List.mem_of_getElem? hu) v (List.mem_of_getElem? hv) h1 h2
 have lt2:∀ (k m:Nat) (x:BV) (u v:InsV),x∈bv→k < m→x.ins[k]?=some u→x.ins[m]?=some v→u.1.args≠[]→v.1.args≠[]→u.2 < v.2:=by
  intro k m x u v hx hkm hu hv h1 h2
  obtain ⟨hk,hu'⟩:=List.getElem?_eq_some_iff.1 hu
  obtain ⟨hm,hv'⟩:=List.getElem?_eq_some_iff.1 hv
  have:=List.pairwise_iff_getElem.1 (p1 x hx) k m hk hm hkm
  rw [hu',hv'] at this
  exact this h1 h2
 intro i j k m x y u v hx hy hu hv h1 h2 he
 rcases Nat.lt_trichotomy i j with h3|h3|h3
 ·have:=lt i j k m x y u v h3 hx hy hu hv h1 h2;omega
 ·subst h3
  rw [hx] at hy
  injection hy with hy
  subst hy
  rcases Nat.lt_trichotomy k m with h4|h4|h4
  ·have:=lt2 k m x u v (List.mem_of_getElem? hx) h4 hu hv h1 h2;omega
  ·exact ⟨rfl,h4⟩
  ·have:=lt2 m k x v u (List.mem_of_getElem? hx) h4 hv hu h2 h1;omega
 ·have:=lt j i m k y x v u h3 hy hx hv hu h2 h1;omega
section
variable {h H:Hp} {N bb:Nat} {bv:List BV}
theorem OwnA.own (o:OwnA h N bb bv):OwnB h bb bv :=
 ⟨Nat.le_trans o.rw o.ge,o.m,fun b hb hn=>⟨Nat.le_trans o.rw (o.row b hb hn).1,(o.row b hb hn).2⟩,fun b hb x hx hn=>⟨Nat.le_trans o.rw (o.arg b hb x hx hn).1,(o.arg b hb x hx hn).2⟩,o.sep⟩
theorem OwnA.up (o:OwnA h N bb bv) (hu:∀ i b,h.m i=some b→H.m i=some b):OwnA H N bb bv :=
 ⟨o.rw,o.ge,hu _ _ o.m,fun b hb hn=>⟨(o.row b hb hn).1,hu _ _ (o.row b hb hn).2⟩,fun b hb x hx hn=>⟨(o.arg b hb x hx hn).1,hu _ _ (o.arg b hb x hx hn).2⟩,o.sep,o.sepA⟩
theorem OwnA.keep (o:OwnA h N bb bv) (hu:∀ i b,h.m i=some b→b.elem=50∨b.elem=58∨b.elem=46→H.m i=some b):OwnA H N bb bv :=
 ⟨o.rw,o.ge,hu _ _ o.m (.inl rfl),fun b hb hn=>⟨(o.row b hb hn).1,hu _ _ (o.row b hb hn).2 (.inr (.inl rfl))⟩,fun b hb x hx hn=>⟨(o.arg b hb x hx hn).1,hu _ _ (o.arg b hb x hx hn).2 (.inr (.inr rfl))⟩,o.sep,o.sepA⟩
theorem OwnA.setT (o:OwnA h N bb bv) {i:Nat} {b:BV} (hb:bv[i]?=some b) (t:TermS) (hm:H.m bb=some ⟨⟨((bv.set i { b with term:=t }).map BV.c).flatten⟩,50⟩) (hk:∀ j x,h.m j=some x→x.elem≠50→H.m j=some x) :
 OwnA H N bb (bv.set i { b with term:=t }):=by
 have hmem:=List.mem_of_getElem? hb
 have back:∀ {j:Nat} {x:BV},(bv.set i { b with term:=t })[j]?=some x→∃ x',bv[j]?=some x'∧x'.ins=x.ins∧x'.r=x.r:=by
  intro j x hx
  rcases set_get hx with ⟨e1,e2⟩|⟨_,e2⟩
  ·subst e1;subst e2;exact ⟨b,hb,rfl,rfl⟩
  ·exact ⟨x,e2,rfl,rfl⟩
 refine ⟨o.rw,o.ge,hm,fun x hx hn=>?_,fun x hx y hy hn=>?_,fun j k x y hx hy hxn hyn he=>?_,fun p j k m x y u v hx hy hu hv h1 h2 he=>?_⟩
 ·rcases mem_set hx with h1|h1
  ·exact ⟨(o.row x h1 hn).1,hk _ _ (o.row x h1 hn).2 (by simp)⟩
  ·subst h1
   exact ⟨(o.row b hmem hn).1,hk _ _ (o.row b hmem hn).2 (by simp)⟩
 ·rcases mem_set hx with h1|h1
  ·exact ⟨(o.arg x h1 y hy hn).1,hk _ _ (o.arg x h1 y hy hn).2 (by simp)⟩
  ·subst h1
   exact ⟨(o.arg b hmem y hy hn).1,hk _ _ (o.arg b hmem y hy hn).2 (by simp)⟩
 ·obtain ⟨x',h1,h2,h3⟩:=back hx
  obtain ⟨y',g1,g2,g3⟩:=back hy
  exact o.sep j k x' y' h1 g1 (by rw [h2];exact hxn) (by rw [g2];exact hyn) (by rw [h3,g3];exact he)
 ·obtain ⟨x',q1,q2,q3⟩:=back hx
  obtain ⟨y',g1,g2,g3⟩:=back hy
  exact o.sepA p j k m x' y' u v q1 g1 (by rw [q2];exact hu) (by rw [g2];exact hv) h1 h2 he
theorem setI_c (b:BV) (k:Nat) (y:InsV):BV.c { b with ins:=b.ins.set k y }=b.c:=by
 unfold BV.c
 rw [rowVl_eq,rowVl_eq]
 simp
theorem setI_cs {bv:List BV} {i k:Nat} {b:BV} (hb:bv[i]?=some b) (y:InsV):(bv.set i { b with ins:=b.ins.set k y }).map BV.c=bv.map BV.c:=by
 rw [List.map_set,setI_c]
 exact set_same (bv_at hb)
theorem OwnA.setX (o:OwnA h N bb bv) {i k:Nat} {b:BV} {x:InsV} (hb:bv[i]?=some b) (hx:b.ins[k]?=some x) (y:InsS) (hy:y.args≠[]→x.1.args≠[])
 (hrow:H.m b.r=some ⟨⟨((b.ins.set k (y,x.2)).map insVC).flatten⟩,58⟩) (harg:y.args≠[]→H.m x.2=some ⟨⟨argsC y.args⟩,46⟩)
 (hk:∀ j z,h.m j=some z→z.elem=50∨z.elem=58∨z.elem=46→j≠b.r→(x.1.args≠[]→j≠x.2)→H.m j=some z):OwnA H N bb (bv.set i { b with ins:=b.ins.set k (y,x.2) }):=by
 have hbm:=List.mem_of_getElem? hb
 have hbn:b.ins≠[]:=by intro e;rw [e] at hx;simp at hx
 have hxm:=List.mem_of_getElem? hx
 have hr:=(o.row b hbm hbn).2
 have ha:=fun hn=>(o.arg b hbm x hxm hn).2
 have back:∀ {j:Nat} {z:BV},(bv.set i { b with ins:=b.ins.set k (y,x.2) })[j]?=some z→∃ z',bv[j]?=some z'∧z'.r=z.r∧(z.ins≠[]→z'.ins≠[])∧((j=i∧z={ b with ins:=b.ins.set k (y,x.2) })∨(j≠i∧z=z')):=by
  intro j z hz
  rcases set_get hz with ⟨e1,e2⟩|⟨e1,e2⟩
  ·subst e1;subst e2;exact ⟨b,hb,rfl,fun _=>hbn,.inl ⟨rfl,rfl⟩⟩
  ·exact ⟨z,e2,rfl,id,.inr ⟨e1,rfl⟩⟩
 have backI:∀ {j m:Nat} {z:BV} {u:InsV},(bv.set i { b with ins:=b.ins.set k (y,x.2) })[j]?=some z→z.ins[m]?=some u→u.1.args≠[]→∃ z' u',bv[j]?=some z'∧z'.ins[m]?=some u'∧u'.2=u.2∧u'.1.args≠[]∧((j=i∧m=k∧u=(y,x.2))∨(¬ (j=i∧m=k)∧u=u')):=by
  intro j m z u hz hu hn
  obtain ⟨z',h1,_,_,h4⟩:=back hz
  rcases h4 with ⟨e1,e2⟩|⟨e1,e2⟩
  ·subst e1;subst e2
   rcases set_get hu with ⟨f1,f2⟩|⟨f1,f2⟩
   ·subst f1;subst f2
    exact ⟨b,x,hb,hx,rfl,hy hn,.inl ⟨rfl,rfl,rfl⟩⟩
   ·exact ⟨b,u,hb,f2,rfl,hn,.inr ⟨fun e=>f1 e.2,rfl⟩⟩
  ·subst e2
   exact ⟨z,u,h1,hu,rfl,hn,.inr ⟨fun e=>e1 e.1,rfl⟩⟩
 refine ⟨o.rw,o.ge,?_,fun z hz hn=>?_,fun z hz u hu hn=>?_,fun j p z w hz hw hzn hwn he=>?_,fun j p m q z w u v hz hw hu hv h1 h2 he=>?_⟩
 ·rw [setI_cs hb]
  refine hk _ _ o.m (.inl rfl) (ne_of_elem o.m hr (by simp)) fun hn=>ne_of_elem o.m (ha hn) (by simp)
 ·obtain ⟨j,hj⟩:=List.mem_iff_getElem?.1 hz
  obtain ⟨z',h1,h2,h3,h4⟩:=back hj
  rcases h4 with ⟨e1,e2⟩|⟨e1,e2⟩
  ·subst e2;exact ⟨(o.row b hbm hbn).1,hrow⟩
  ·subst e2
   have hzr:=o.row z (List.mem_of_getElem? h1) hn
   exact ⟨hzr.1,hk _ _ hzr.2 (.inr (.inl rfl)) (fun e=>e1 (o.sep j i z b h1 hb hn hbn e)) fun hn'=>ne_of_elem hzr.2 (ha hn') (by simp)⟩
 ·obtain ⟨j,hj⟩:=List.mem_iff_getElem?.1 hz
  obtain ⟨m,hm⟩:=List.mem_iff_getElem?.1 hu
  obtain ⟨z',u',h1,h2,h3,h4,h5⟩:=backI hj hm hn
  have hua:=o.arg z' (List.mem_of_getElem? h1) u' (List.mem_of_getElem? h2) h4
  rcases h5 with ⟨_,_,e⟩|⟨e1,e2⟩
  ·subst e
   exact ⟨(o.arg b hbm x hxm (hy hn)).1,harg hn⟩
  ·subst e2
   exact ⟨hua.1,hk _ _ hua.2 (.inr (.inr rfl)) (ne_of_elem hua.2 hr (by simp)) fun hn' e=>e1 (o.sepA j i m k z' b u x h1 hb h2 hx hn hn' e)⟩
 ·obtain ⟨z',h1,h2,h3,_⟩:=back hz
  obtain ⟨w',g1,g2,g3,_⟩:=back hw
  exact o.sep j p z' w' h1 g1 (h3 hzn) (g3 hwn) (by rw [h2,g2];exact he)
 ·obtain ⟨z',u',e1,e2,e3,e4,_⟩:=backI hz hu h1
  obtain ⟨w',v',f1,f2,f3,f4,_⟩:=backI hw hv h2
  exact o.sepA j p m q z' w' u' v' e1 f1 e2 f2 e4 f4 (by rw [e3,f3];exact he)
end
def insVs:List FactS→List InsV→List InsV
 | _,[]=>[]
 | l,x::xs=>(insF l x.1,x.2)::insVs (stepF l x.1) xs
def blockV (l:List FactS) (b:BV):BV:=⟨insVs l b.ins,b.r,termF ((b.ins.map (·.1)).foldl stepF l) b.term⟩
def foldVs:List BV→List (List FactS)→List Bool→List BV
 | b::bv,l::ls,s::ss=>(if s=true then blockV l b else b)::foldVs bv ls ss
 | bv,_,_=>bv
end Go.Proofs.YtjhloakacicdiaaDoor
