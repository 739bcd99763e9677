/-
  What the functions that the law reaches compute,told by plain data;it holds of programs that pass the check of right form and are light.
-/
import Derived.Test.YtjhloakacicdiaaDoorR1
set_option linter.unusedVariables false
set_option linter.unusedSimpArgs false
namespace Go.Proofs.YtjhloakacicdiaaDoor
open Go.AH
attribute [local irreducible] W RS
theorem next1_tf (t:TermS) (hk:t.kind=1) (h:Hp):TF Tryd.prog 46 ⟨[.agg ⟨termC t⟩]⟩ h (.slice (some ⟨h.n,0,none⟩) 1 1) (h.push ⟨⟨[.int .i64 t.goto]⟩,3⟩):=by
 refine TF.ends (fn:=Tryd.f46) (c:=(Tryd.f46.body.getD .skip)) (Q:=RowQ (fun _=>[.int .i64 t.goto]) 3 1 1 h) Tryd.func46 (by kernel_rfl) Tryd.ntmps46 (by kernel_rfl) ?_ (row_end (by simp [argC]))
 conv=>arg 2;whnf
 repeat (first|refine Yi ?_|refine Y1a ?_|refine Y3 ?_|refine Y7 ?_|refine Y0 ?_|refine Y18 ?_|refine Y1 ?_|refine Y5 ?_)
 repeat' ((first|((refine YD ?_ ?_)<;>intro _)|((refine YG ?_ ?_)<;>intro _)|((refine YC ?_ ?_)<;>intro _)|((refine YN ?_ ?_)<;>intro _))<;>repeat (fail))
 all_goals exact endsK_ret _ (.cons (.tmp rfl) .nil) ⟨rfl,1,Nat.lt_succ_self 1,rfl,rfl⟩
theorem next2_tf (t:TermS) (hk:t.kind=2) (h:Hp):TF Tryd.prog 46 ⟨[.agg ⟨termC t⟩]⟩ h (.slice (some ⟨h.n,0,none⟩) 2 2) (h.push ⟨⟨[.int .i64 t.goto,.int .i64 t.els]⟩,3⟩):=by
 refine TF.ends (fn:=Tryd.f46) (c:=(Tryd.f46.body.getD .skip)) (Q:=RowQ (fun _=>[.int .i64 t.goto,.int .i64 t.els]) 3 2 2 h) Tryd.func46 (by kernel_rfl) Tryd.ntmps46 (by kernel_rfl) ?_ (row_end (by simp [argC]))
 conv=>arg 2;whnf
 repeat (first|refine Yi ?_|refine Y1a ?_|refine Y3 ?_|refine Y2 ?_|refine Y7 ?_|refine Y0 ?_|refine Y18 ?_|refine Y1 ?_|refine Y5 ?_|refine Y6 ?_)
 repeat' ((first|((refine YD ?_ ?_)<;>intro _)|((refine YG ?_ ?_)<;>intro _)|((refine YC ?_ ?_)<;>intro _)|((refine YN ?_ ?_)<;>intro _))<;>repeat (fail))
 all_goals exact endsK_ret _ (.cons (.tmp rfl) .nil) ⟨rfl,1,Nat.lt_succ_self 1,rfl,rfl⟩
theorem next0_tf (t:TermS) (h1:t.kind≠1) (h2:t.kind≠2) (h:Hp):TF Tryd.prog 46 ⟨[.agg ⟨termC t⟩]⟩ h (.slice none 0 0) h:=by
 refine TF.still (fn:=Tryd.f46) (c:=(Tryd.f46.body.getD .skip)) Tryd.func46 (by kernel_rfl) Tryd.ntmps46 (by kernel_rfl) (by simp) ?_
 conv=>arg 2;whnf
 repeat (first|refine Y1a ?_|refine Y2 ?_|refine Y7 ?_|refine Y0 ?_|refine Y2x ?_|refine Y1 ?_|refine Y6 ?_)
 repeat' ((first|((refine YD ?_ ?_)<;>intro _)|((refine YG ?_ ?_)<;>intro _)|((refine YC ?_ ?_)<;>intro _)|((refine YN ?_ ?_)<;>intro _))<;>repeat (fail))
 all_goals exact endsK_ret _ (.cons (.tmp rfl) .nil) ⟨rfl,rfl⟩
theorem treads2_tf (t:TermS) (hk:t.kind=2) (h:Hp):TF Tryd.prog 17 ⟨[.agg ⟨termC t⟩]⟩ h (.slice (some ⟨h.n,0,none⟩) 2 2) (h.push ⟨⟨argC t.a++argC t.b⟩,46⟩):=by
 refine TF.ends (fn:=Tryd.f17) (c:=(Tryd.f17.body.getD .skip)) (Q:=RowQ (fun _=>argC t.a++argC t.b) 46 2 2 h) Tryd.func17 (by kernel_rfl) Tryd.ntmps17 (by kernel_rfl) ?_ (row_end (by simp [argC]))
 conv=>arg 2;whnf
 repeat (first|refine Yi ?_|refine Y1a ?_|refine Y3 ?_|refine Y7 ?_|refine Y8 ?_|refine Y0 ?_|refine Y18 ?_|refine Y1 ?_|refine Y5 ?_)
 repeat' ((first|((refine YD ?_ ?_)<;>intro _)|((refine YG ?_ ?_)<;>intro _)|((refine YC ?_ ?_)<;>intro _)|((refine YN ?_ ?_)<;>intro _))<;>repeat (fail))
 all_goals exact endsK_ret _ (.cons (.tmp rfl) .nil) ⟨rfl,1,Nat.lt_succ_self 1,rfl,rfl⟩
theorem treads3_tf (t:TermS) (hk:t.kind=3) (h:Hp):TF Tryd.prog 17 ⟨[.agg ⟨termC t⟩]⟩ h (.slice (some ⟨h.n,0,none⟩) 1 1) (h.push ⟨⟨argC t.a⟩,46⟩):=by
 refine TF.ends (fn:=Tryd.f17) (c:=(Tryd.f17.body.getD .skip)) (Q:=RowQ (fun _=>argC t.a) 46 1 1 h) Tryd.func17 (by kernel_rfl) Tryd.ntmps17 (by kernel_rfl) ?_ (row_end (by simp [argC]))
 conv=>arg 2;whnf
 repeat (first|refine Yi ?_|refine Y1a ?_|refine Y3 ?_|refine Y2 ?_|refine Y7 ?_|refine Y8 ?_|refine Y0 ?_|refine Y18 ?_|refine Y1 ?_|refine Y5 ?_|refine Y6 ?_)
 repeat' ((first|((refine YD ?_ ?_)<;>intro _)|((refine YG ?_ ?_)<;>intro _)|((refine YC ?_ ?_)<;>intro _)|((refine YN ?_ ?_)<;>intro _))<;>repeat (fail))
 all_goals exact endsK_ret _ (.cons (.tmp rfl) .nil) ⟨rfl,1,Nat.lt_succ_self 1,rfl,rfl⟩
theorem treads0_tf (t:TermS) (h1:t.kind≠2) (h2:t.kind≠3) (h:Hp):TF Tryd.prog 17 ⟨[.agg ⟨termC t⟩]⟩ h (.slice none 0 0) h:=by
 refine TF.still (fn:=Tryd.f17) (c:=(Tryd.f17.body.getD .skip)) Tryd.func17 (by kernel_rfl) Tryd.ntmps17 (by kernel_rfl) (by simp) ?_
 conv=>arg 2;whnf
 repeat (first|refine Y1a ?_|refine Y2 ?_|refine Y7 ?_|refine Y0 ?_|refine Y2x ?_|refine Y1 ?_|refine Y6 ?_)
 repeat' ((first|((refine YD ?_ ?_)<;>intro _)|((refine YG ?_ ?_)<;>intro _)|((refine YC ?_ ?_)<;>intro _)|((refine YN ?_ ?_)<;>intro _))<;>repeat (fail))
 all_goals exact endsK_ret _ (.cons (.tmp rfl) .nil) ⟨rfl,rfl⟩
theorem reads2_tf (x:InsS) (A:Option Addr) (c:Nat) (hk:twoS x.op=true∨x.op=27) (h:Hp):TF Tryd.prog 50 ⟨[.agg ⟨insC x A c⟩]⟩ h (.slice (some ⟨h.n,0,none⟩) 2 2) (h.push ⟨⟨argC x.a++argC x.b⟩,46⟩):=by
 refine TF.ends (fn:=Tryd.f50) (c:=(Tryd.f50.body.getD .skip)) (Q:=RowQ (fun _=>argC x.a++argC x.b) 46 2 2 h) Tryd.func50 (by kernel_rfl) Tryd.ntmps50 (by kernel_rfl) ?_ (row_end (by simp [argC]))
 conv=>arg 2;whnf
 repeat' (first|refine Yi ?_|refine Y3p ?_|refine Y2b ?_|refine Yk ?_|refine Yb ?_|refine Ym ?_|refine Y7 ?_|refine Y8 ?_|refine Yn ?_|refine Y0 ?_|refine Yx ?_|refine Y1 ?_|refine Y5 ?_|((refine YD ?_ ?_)<;>intro _)|((refine YG ?_ ?_)<;>intro _)|((refine YC ?_ ?_)<;>intro _)|((refine YN ?_ ?_)<;>intro _))
 all_goals first
  | exact endsK_ret _ (.cons (.tmp rfl) .nil) ⟨rfl,1,Nat.lt_succ_self 1,rfl,rfl⟩
  | (exfalso;simp only [twoS,Bool.and_eq_true,decide_eq_true_eq,Bool.and_eq_false_iff,decide_eq_false_iff_not] at *;omega)
theorem reads1_tf (x:InsS) (A:Option Addr) (c:Nat) (h0:twoS x.op=false) (h1:¬ (23≤x.op∧x.op≤25)) (h2:¬ (27≤x.op∧x.op≤29)) (h:Hp):TF Tryd.prog 50 ⟨[.agg ⟨insC x A c⟩]⟩ h (.slice (some ⟨h.n,0,none⟩) 1 1) (h.push ⟨⟨argC x.a⟩,46⟩):=by
 refine TF.ends (fn:=Tryd.f50) (c:=(Tryd.f50.body.getD .skip)) (Q:=RowQ (fun _=>argC x.a) 46 1 1 h) Tryd.func50 (by kernel_rfl) Tryd.ntmps50 (by kernel_rfl) ?_ (row_end (by simp [argC]))
 conv=>arg 2;whnf
 repeat' (first|refine Y3p ?_|refine Yi ?_|refine Y2b ?_|refine Yk ?_|refine Yb ?_|refine Y2 ?_|refine Y7 ?_|refine Y8 ?_|refine Yn ?_|refine Y0 ?_|refine Yx ?_|refine Y1 ?_|refine Y5 ?_|refine Y6 ?_|((refine YD ?_ ?_)<;>intro _)|((refine YG ?_ ?_)<;>intro _)|((refine YC ?_ ?_)<;>intro _)|((refine YN ?_ ?_)<;>intro _))
 all_goals first
  | exact endsK_ret _ (.cons (.tmp rfl) .nil) ⟨rfl,1,Nat.lt_succ_self 1,rfl,rfl⟩
  | (exfalso;simp only [twoS,Bool.and_eq_true,decide_eq_true_eq,Bool.and_eq_false_iff,decide_eq_false_iff_not] at *;omega)
theorem reads0_tf (x:InsS) (A:Option Addr) (c:Nat) (h0:23≤x.op∧x.op≤25) (h:Hp):TF Tryd.prog 50 ⟨[.agg ⟨insC x A c⟩]⟩ h (.slice none 0 0) h:=by
 have ht:twoS x.op=false:=by unfold twoS;rw [Bool.eq_false_iff];simp;omega
 refine TF.still (fn:=Tryd.f50) (c:=(Tryd.f50.body.getD .skip)) Tryd.func50 (by kernel_rfl) Tryd.ntmps50 (by kernel_rfl) (by simp) ?_
 conv=>arg 2;whnf
 repeat' (first|refine Y3p ?_|refine Yi ?_|refine Y2b ?_|refine Yk ?_|refine Yb ?_|refine Y3 ?_|refine Y2 ?_|refine Ym ?_|refine Y7 ?_|refine Y8 ?_|refine Yn ?_|refine Y0 ?_|refine Y18 ?_|refine Y1 ?_|refine Y5 ?_|refine Y6 ?_|((refine YD ?_ ?_)<;>intro _)|((refine YG ?_ ?_)<;>intro _)|((refine YC ?_ ?_)<;>intro _)|((refine YN ?_ ?_)<;>intro _))
 all_goals first
  | exact endsK_ret _ (.cons (.tmp rfl) .nil) ⟨rfl,rfl⟩
  | (exfalso;simp only [twoS,Bool.and_eq_true,decide_eq_true_eq,Bool.and_eq_false_iff,decide_eq_false_iff_not] at *;omega)
theorem TF.withArgs {P:Program} {h h':Hp} {g:FuncId} {args:Array Value} {v:Value} (ht:(∀ x∈args,bnd h.n x)→TF P g args h v h'):TF P g args h v h':=fun ha=>ht ha ha
theorem argsBnd {x:InsS} {A:Option Addr} {c n:Nat} (h:∀ v∈(⟨[.agg ⟨insC x A c⟩]⟩:Array Value),bnd n v):∀ m,bnd n (.slice A m c):=by
 intro m
 have h1:=h (.agg ⟨insC x A c⟩) (by simp)
 simp only [bnd_agg] at h1
 have h2:=h1 (.slice A x.args.length c) (by simp [insC])
 cases A with
 | none=>simp
 | some a=>simpa using h2
theorem reads28_tf (x:InsS) (A:Option Addr) (c:Nat) (h0:x.op=28) (h:Hp):TF Tryd.prog 50 ⟨[.agg ⟨insC x A c⟩]⟩ h (.slice A x.args.length c) h:=by
 have ht:twoS x.op=false:=by unfold twoS;rw [Bool.eq_false_iff];simp;omega
 refine TF.withArgs fun ha=>?_
 refine TF.ends (fn:=Tryd.f50) (c:=(Tryd.f50.body.getD .skip)) (Q:=fun vs h'=>h'.base=h∧resultOf vs=.slice A x.args.length c) Tryd.func50 (by kernel_rfl) Tryd.ntmps50 (by kernel_rfl) ?_ (fun vs h' w hq hold htf=>?_)
 ·conv=>arg 2;whnf
  repeat (first|refine Y1a ?_|refine Y3 ?_|refine Y7 ?_|refine Y0 ?_|refine Y18 ?_|refine Y1 ?_|refine Y5 ?_)
  repeat' ((first|((refine YD ?_ ?_)<;>intro _)|((refine YG ?_ ?_)<;>intro _)|((refine YC ?_ ?_)<;>intro _)|((refine YN ?_ ?_)<;>intro _))<;>repeat (fail))
  all_goals first
   | exact endsK_ret _ (.cons (.tmp rfl) .nil) ⟨rfl,rfl⟩
   | (exfalso;simp only [twoS,Bool.and_eq_true,decide_eq_true_eq,Bool.and_eq_false_iff,decide_eq_false_iff_not] at *;omega)
 ·obtain ⟨q1,q2⟩:=hq
  rw [q2] at htf
  have hb:=argsBnd ha x.args.length
  refine (htf (bnd_mono ?_ _ hb)).trunc hb (fun i hi=>hold i hi q1)
  have:=w.bn
  rw [q1] at this;exact this
def argsC (l:List ArgS):List Value:=l.flatMap argC
theorem argsC_length (l:List ArgS):(argsC l).length=l.length * 2:=by
 induction l with
 | nil=>rfl
 | cons a l ih=>simp only [argsC,List.flatMap_cons,List.length_append,List.length_cons] at ih ⊢;rw [ih];simp [argC];omega
theorem argsC_at {l:List ArgS} {i:Nat} {a:ArgS} (h:l[i]?=some a):takeV (0+i * 2) 2 (argsC l)=argC a:=by
 induction l generalizing i with
 | nil=>simp at h
 | cons u l ih =>
  cases i with
  | zero =>
   simp only [List.getElem?_cons_zero,Option.some.injEq] at h
   subst h
   rw [takeV_eq]
   simp [argsC,argC]
  | succ i =>
   have h1:=ih (i:=i) (by simpa using h)
   rw [takeV_eq] at h1 ⊢
   have e:argsC (u::l)=argC u++argsC l:=rfl
   have e2:0+(i+1) * 2=(argC u).length+(0+i * 2):=by show _=2+_;omega
   rw [e,e2,← List.drop_drop,List.drop_left]
   exact h1
theorem rows_eq {cs:List Value} {off:Nat}:∀ {l:List ArgS},off+l.length * 2≤cs.length→(∀ i a,l[i]?=some a→takeV (off+i * 2) 2 cs=argC a)→takeV off (l.length * 2) cs=argsC l:=by
 intro l
 induction l generalizing off with
 | nil=>intro _ _;rw [takeV_eq];simp [argsC]
 | cons u l ih =>
  intro hl h
  have h0:=h 0 u rfl
  simp only [List.length_cons] at hl
  have h1:=ih (off:=off+2) (by omega) (fun i a ha=>by have:=h (i+1) a (by simpa using ha);rw [show off+2+i * 2=off+(i+1) * 2 by omega];exact this)
  rw [takeV_eq] at h0 h1 ⊢
  rw [show off+0 * 2=off by omega] at h0
  have e:argsC (u::l)=argC u++argsC l:=rfl
  rw [e,← h0,← h1,List.length_cons,show (l.length+1) * 2=2+l.length * 2 by omega,List.take_add,List.drop_drop]
def cap29 (x:InsS):Nat:=if 0 < x.args.length then capOf 2 else 1
theorem reads29_tf (x:InsS) (A:Option Addr) (c:Nat) (h0:x.op=29) (hn:x.args.length≤1000000000) (h:Hp) (hl:SlAt h A 2 x.args argR):TF Tryd.prog 50 ⟨[.agg ⟨insC x A c⟩]⟩ h (.slice (some ⟨h.n,0,none⟩) (1+x.args.length) (cap29 x)) (h.push ⟨⟨argsC (x.a::x.args)⟩,46⟩):=by
 have ht:twoS x.op=false:=by unfold twoS;rw [Bool.eq_false_iff];simp;omega
 have hfree:∀ v∈argsC (x.a::x.args),bnd h.n v:=by
  intro v hv
  simp only [argsC,List.mem_flatMap,argC,List.mem_cons,List.not_mem_nil,or_false] at hv
  obtain ⟨a,_,rfl|rfl⟩:=hv<;>simp
 refine TF.dom fun hd=>?_
 by_cases hpos:0 < x.args.length
 ·have hcap:cap29 x=capOf 2:=by unfold cap29;rw [if_pos hpos]
  rw [hcap]
  obtain ⟨a0,ha0⟩:∃ a,x.args[0]?=some a:=⟨_,List.getElem?_eq_getElem hpos⟩
  obtain ⟨b,off,cs,e,rfl,hB,_,_⟩:=hl.get 0 a0 ha0
  have hBn:=hd _ _ hB
  have hget:∀ i a,x.args[i]?=some a→off+i * 2+2≤cs.length∧takeV (off+i * 2) 2 cs=argC a:=by
   intro i a hi
   obtain ⟨b',off',cs',e',q1,q2,q4,q5⟩:=hl.get i a hi
   injection q1 with q1
   injection q1 with e1 e2
   subst e1;subst e2
   rw [hB] at q2
   injection q2 with q2
   injection q2 with q2 q3
   injection q2 with q2
   subst q2
   exact ⟨q4,q5⟩
  have hBl:off+x.args.length * 2≤cs.length:=by
   have:=(hget (x.args.length - 1) _ (List.getElem?_eq_getElem (by omega))).1
   omega
  have hrow:=rows_eq hBl fun i a hi=>(hget i a hi).2
  refine TF.ends (fn:=Tryd.f50) (c:=(Tryd.f50.body.getD .skip)) (Q:=RowQ (fun _=>argsC (x.a::x.args)) 46 (1+x.args.length) (capOf 2) h) Tryd.func50 (by kernel_rfl) Tryd.ntmps50 (by kernel_rfl) ?_ (row_end hfree)
  conv=>arg 2;whnf
  repeat (first|refine Yi ?_|((with_reducible apply RS.appendFull);(iterate 9 exact rfl);decide;exact hB;exact hBn;exact hBl;exact hpos;(show (1+_) * 16≤_;omega);omega)|refine Y1a ?_|refine Y3 ?_|refine Y2 ?_|refine Y7 ?_|refine Y8 ?_|refine Y0 ?_|refine Y18 ?_|refine Y1 ?_|refine Y5 ?_|refine Y6 ?_)
  repeat' ((first|((refine YD ?_ ?_)<;>intro _)|((refine YG ?_ ?_)<;>intro _)|((refine YC ?_ ?_)<;>intro _)|((refine YN ?_ ?_)<;>intro _))<;>repeat (fail))
  all_goals first
   | (refine endsK_ret _ (.cons (.tmp rfl) .nil) ⟨rfl, 2, Nat.lt_succ_self 2, ?_, rfl⟩
      show some (Blk.mk ⟨argC x.a++takeV off (x.args.length * 2) cs⟩ 46)=some (Blk.mk ⟨argsC (x.a::x.args)⟩ 46)
      rw [hrow];rfl)
   | (exfalso;simp only [twoS,Bool.and_eq_true,decide_eq_true_eq,Bool.and_eq_false_iff,decide_eq_false_iff_not] at *;omega)
 ·have hcap:cap29 x=1:=by unfold cap29;rw [if_neg hpos]
  rw [hcap]
  have hzero:x.args.length=0:=by omega
  have hnil:x.args=[]:=List.eq_nil_of_length_eq_zero hzero
  rw [hzero,Nat.add_zero,hnil]
  refine TF.ends (fn:=Tryd.f50) (c:=(Tryd.f50.body.getD .skip)) (Q:=RowQ (fun _=>argsC [x.a]) 46 1 1 h) Tryd.func50 (by kernel_rfl) Tryd.ntmps50 (by kernel_rfl) ?_ (row_end (by intro v hv;exact hfree v (by rw [hnil];exact hv)))
  conv=>arg 2;whnf
  repeat (first|refine Yi ?_|((with_reducible apply RS.appendNone);(iterate 4 exact rfl);exact hzero;decide;exact Nat.le_refl _;kernel_rfl)|refine Y1a ?_|refine Y3 ?_|refine Y2 ?_|refine Y7 ?_|refine Y8 ?_|refine Y0 ?_|refine Y18 ?_|refine Y1 ?_|refine Y5 ?_|refine Y6 ?_)
  repeat' ((first|((refine YD ?_ ?_)<;>intro _)|((refine YG ?_ ?_)<;>intro _)|((refine YC ?_ ?_)<;>intro _)|((refine YN ?_ ?_)<;>intro _))<;>repeat (fail))
  all_goals first
   | exact endsK_ret _ (.cons (.tmp rfl) .nil) ⟨rfl,1,Nat.lt_succ_self 1,rfl,rfl⟩
   | (exfalso;simp only [twoS,Bool.and_eq_true,decide_eq_true_eq,Bool.and_eq_false_iff,decide_eq_false_iff_not] at *;omega)
def readsS (x:InsS):List ArgS:=if x.op=28 then x.args else if x.op=29 then x.a::x.args else if twoS x.op=true∨x.op=27 then [x.a,x.b] else if 23≤x.op∧x.op≤25 then [] else [x.a]
def paramsAt (p:ProgS) (r:Int):Option Int:=if 0≤r then (p.funcs[r.toNat]?).map (·.params) else none
def rightT (p:ProgS) (f:FuncS) (x:InsS):Bool :=
 if x.op=22∨x.op=26 then decide (0≤x.dst) && sizedS x.size
 else if x.op=27 then x.dst == -1 && sizedS x.size
 else if x.op=23 then decide (0≤x.dst) && decide (0≤x.ref) && decide (x.ref < p.globals.length)
 else if x.op=24 then decide (0≤x.dst) && decide (0≤x.ref) && decide (x.ref < f.slots.length)
 else if x.op=25 then decide (0≤x.dst) && decide (0≤x.ref) && decide (x.ref < p.funcs.length)
 else if x.op=28 then paramsAt p x.ref == some (x.args.length:Int)
 else if x.op=29 then decide (x.args.length≤6)
 else if x.op=30 then x.dst == -1
 else decide (0≤x.dst)
def rightS (p:ProgS) (f:FuncS) (x:InsS):Bool:=decide (1≤x.op) && decide (x.op≤30) && argsS f.regs (readsS x) && decide (-1≤x.dst) && decide (x.dst < f.regs) && rightT p f x
theorem sees_up {h:SH} {vl:List Nat} {H:Hp} (hH:Sees h true vl H) (hd:∀ i b,h.base.m i=some b→i < h.base.n):∀ i b,h.base.m i=some b→H.m i=some b:=fun i b hb=>by rw [hH.b rfl i (hd i b hb)];exact hb
theorem local_args {h:SH} {H:Hp} {k:Nat} {l:List ArgS} {e:TypeId} (hm:H.m (h.π k)=some ⟨⟨argsC l⟩,e⟩):SlAt H (some ⟨h.π k,0,none⟩) 2 l argR :=
 ⟨fun i a ha=>⟨h.π k,0,argsC l,e,rfl,hm,by rw [argsC_length];have:=(List.getElem?_eq_some_iff.1 ha).1;omega,argsC_at ha⟩⟩
structure FuncAt (h:Hp) (fb fo:Nat) (f:FuncS) (fcs:List Value) (fe:TypeId) (A1:Option Addr) (c1:Nat) (A2:Option Addr) (c2:Nat) (A3:Option Addr) (c3:Nat):Prop where
 m:h.m fb=some ⟨⟨fcs⟩,fe⟩
 c:∀ j v,(funcC f A1 c1 A2 c2 A3 c3)[j]?=some v→fcs[fo+j]?=some v
 sl:SlAt h A2 1 f.slots intR
 bl:SlAt h A3 9 f.blocks (blockR h)
structure ProgAt (h:Hp) (pb:Nat) (p:ProgS) (pe:TypeId) (A1:Option Addr) (c1:Nat) (A2:Option Addr) (c2:Nat):Prop where
 m:h.m pb=some ⟨⟨progC p A1 c1 A2 c2⟩,pe⟩
 fs:SlAt h A1 6 p.funcs (funcR h)
 gs:SlAt h A2 4 p.globals (globR h)
theorem right28_tf (p:ProgS) (f:FuncS) (x:InsS) (pb:Nat) (pe:TypeId) (P1:Option Addr) (d1:Nat) (P2:Option Addr) (d2:Nat) (fb fo:Nat) (fcs:List Value) (fe:TypeId) (F1:Option Addr) (c1:Nat) (F2:Option Addr) (c2:Nat) (F3:Option Addr) (c3:Nat) (A:Option Addr) (c:Nat) (h:Hp)
 (hp:ProgAt h pb p pe P1 d1 P2 d2) (hf:FuncAt h fb fo f fcs fe F1 c1 F2 c2 F3 c3) (hl:SlAt h A 2 x.args argR) (hn:x.args.length≤1000000000000000) (h28:x.op=28) :
 TF Tryd.prog 63 ⟨[.pointer (some ⟨pb,0,none⟩),.pointer (some ⟨fb,fo,none⟩),.agg ⟨insC x A c⟩]⟩ h (.bool (rightS p f x)) h:=by
 refine TF.dom fun hd=>?_
 have hpn:=hd _ _ hp.m
 have hfn:=hd _ _ hf.m
 refine TF.still (fn:=Tryd.f63) (c:=(Tryd.f63.body.getD .skip)) Tryd.func63 (by kernel_rfl) Tryd.ntmps63 (by kernel_rfl) (by simp) ?_
 conv=>arg 2;whnf
 have hrT:rightT p f x=(paramsAt p x.ref == some (x.args.length:Int)):=by
  unfold rightT
  rw [if_neg (by omega),if_neg (by omega),if_neg (by omega),if_neg (by omega),if_neg (by omega),if_pos h28]
 have hrd:readsS x=x.args:=by unfold readsS;rw [if_pos h28]
 by_cases hr:0≤x.ref∧x.ref < p.funcs.length
 ·obtain ⟨g,hg⟩:∃ g,p.funcs[x.ref.toNat]?=some g:=⟨_,List.getElem?_eq_getElem (by omega)⟩
  obtain ⟨gb,go,gcs,ge,rfl,hG,hGl,hGv⟩:=hp.fs.get _ g hg
  have hGn:=hd _ _ hG
  obtain ⟨G1,k1,G2,k2,G3,k3,hgc,_,_⟩:=hGv
  have hgp:=take_nth (j:=1) hgc rfl
  have hpa:paramsAt p x.ref=some g.params:=by unfold paramsAt;rw [if_pos hr.1,hg];rfl
  repeat' (first|refine Y4u ?_|refine Y2s ?_|((with_reducible apply RS.load1B);(iterate 3 exact rfl);first|exact hf.m;exact hfn;(first|exact hf.c 3 _ rfl|exact hf.c 4 _ rfl)|exact hp.m;exact hpn;exact rfl|exact hG;exact hGn;exact hgp)|refine Y4v ?_|refine Y28 ?_|refine Yk ?_|refine Yb ?_|refine Y3 ?_|refine Y2 ?_|refine Ym ?_|refine Yt ?_|refine Y7 ?_|refine Y8 ?_|refine Yn ?_|refine Y0 ?_|refine Yx ?_|refine Y1 ?_|refine Y5 ?_|refine Y6 ?_|((refine YD ?_ ?_)<;>intro _)|((refine YG ?_ ?_)<;>intro _)|((refine YC ?_ ?_)<;>intro _)|((refine YN ?_ ?_)<;>intro _))
  all_goals refine endsK_ret _ (.cons (.tmp rfl) .nil) ⟨rfl,?_⟩
  all_goals simp only [resultOf,Value.bool.injEq,rightS,hrd,hrT,hpa]
  all_goals simp only [Bool.not_eq_true',Bool.not_eq_false'] at *
  all_goals simp [*]
  all_goals first|omega|(rw [Bool.eq_iff_iff];simp only [Bool.and_eq_true,decide_eq_true_eq,beq_iff_eq];omega)
 ·have hpa:paramsAt p x.ref=none:=by
   unfold paramsAt
   split
   ·rw [List.getElem?_eq_none (by omega)];rfl
   ·rfl
  repeat' (first|refine Y4u ?_|refine Y2s ?_|refine Y3l ?_|refine Y28 ?_|refine Yk ?_|refine Yb ?_|refine Y3 ?_|refine Y2 ?_|refine Ym ?_|refine Yt ?_|refine Y7 ?_|refine Y8 ?_|refine Yn ?_|refine Y0 ?_|refine Yx ?_|refine Y1 ?_|refine Y5 ?_|refine Y6 ?_|((refine YD ?_ ?_)<;>intro _)|((refine YG ?_ ?_)<;>intro _)|((refine YC ?_ ?_)<;>intro _)|((refine YN ?_ ?_)<;>intro _))
  all_goals refine endsK_ret _ (.cons (.tmp rfl) .nil) ⟨rfl,?_⟩
  all_goals simp only [resultOf,Value.bool.injEq,rightS,hrd,hrT,hpa]
  all_goals simp only [Bool.not_eq_true',Bool.not_eq_false'] at *
  all_goals simp [*]
  all_goals first|omega|(rw [Bool.eq_iff_iff];simp only [Bool.and_eq_true,decide_eq_true_eq,beq_iff_eq];omega)
theorem args_tfn (n fb fo:Nat) (fcs:List Value) (fe:TypeId) (regs:Int) (l:List ArgS) (A:Option Addr) (c:Nat) (h:Hp) (hlen:n=l.length) (hF:h.m fb=some ⟨⟨fcs⟩,fe⟩) (hFv:fcs[fo+3]?=some (.int .i64 regs)) (hl:SlAt h A 2 l argR) (hn:l.length≤1000000000000000) :
 TF Tryd.prog 85 ⟨[.pointer (some ⟨fb,fo,none⟩),.slice A n c]⟩ h (.bool (argsS regs l)) h:=by
 subst hlen;exact args_tf fb fo fcs fe regs l A c h hF hFv hl hn
theorem reads29_at {h:SH} {x:InsS} {A:Option Addr} {c:Nat} (h0:x.op=29) (hn:x.args.length≤1000000000) (hl:SlAt h.base A 2 x.args argR) (hd:∀ i b,h.base.m i=some b→i < h.base.n) (H:Hp) (hH:Sees h true [] H):TF Tryd.prog 50 ⟨[.agg ⟨insC x A c⟩]⟩ H (.slice (some ⟨h.π h.k,0,none⟩) (1+x.args.length) (cap29 x)) (H.push ⟨⟨argsC (x.a::x.args)⟩,46⟩):=by
 have:=reads29_tf x A c h0 hn H (hl.mono (sees_up hH hd) fun _ _ h=>h)
 rw [hH.n] at this;exact this
theorem reads2_at {h:SH} {x:InsS} {A:Option Addr} {c:Nat} (h0:twoS x.op=true∨x.op=27) (H:Hp) (hH:Sees h true [] H):TF Tryd.prog 50 ⟨[.agg ⟨insC x A c⟩]⟩ H (.slice (some ⟨h.π h.k,0,none⟩) 2 2) (H.push ⟨⟨argsC [x.a,x.b]⟩,46⟩):=by
 have:=reads2_tf x A c h0 H
 rw [hH.n] at this;exact this
theorem reads1_at {h:SH} {x:InsS} {A:Option Addr} {c:Nat} (h0:twoS x.op=false) (h1:¬ (23≤x.op∧x.op≤25)) (h2:¬ (27≤x.op∧x.op≤29)) (H:Hp) (hH:Sees h true [] H):TF Tryd.prog 50 ⟨[.agg ⟨insC x A c⟩]⟩ H (.slice (some ⟨h.π h.k,0,none⟩) 1 1) (H.push ⟨⟨argsC [x.a]⟩,46⟩):=by
 have:=reads1_tf x A c h0 h1 h2 H
 rw [hH.n] at this;exact this
theorem right29_tf (p:ProgS) (f:FuncS) (x:InsS) (pb:Nat) (pe:TypeId) (P1:Option Addr) (d1:Nat) (P2:Option Addr) (d2:Nat) (fb fo:Nat) (fcs:List Value) (fe:TypeId) (F1:Option Addr) (c1:Nat) (F2:Option Addr) (c2:Nat) (F3:Option Addr) (c3:Nat) (A:Option Addr) (c:Nat) (h:Hp)
 (hp:ProgAt h pb p pe P1 d1 P2 d2) (hf:FuncAt h fb fo f fcs fe F1 c1 F2 c2 F3 c3) (hl:SlAt h A 2 x.args argR) (hn:x.args.length≤1000000000) (h29:x.op=29) :
 TF Tryd.prog 63 ⟨[.pointer (some ⟨pb,0,none⟩),.pointer (some ⟨fb,fo,none⟩),.agg ⟨insC x A c⟩]⟩ h (.bool (rightS p f x)) h:=by
 refine TF.dom fun hd=>?_
 have hpn:=hd _ _ hp.m
 have hfn:=hd _ _ hf.m
 have hrd:readsS x=x.a::x.args:=by unfold readsS;rw [if_neg (by omega),if_pos h29]
 refine TF.still (fn:=Tryd.f63) (c:=(Tryd.f63.body.getD .skip)) Tryd.func63 (by kernel_rfl) Tryd.ntmps63 (by kernel_rfl) (by simp) ?_
 conv=>arg 2;whnf
 repeat' (first|((with_reducible apply RS.callN true []);(iterate 3 exact rfl);exact reads29_at h29 hn hl hd)|((with_reducible apply RS.callR true [1]);(iterate 3 exact rfl);exact fun H hH=>args_tfn _ fb fo fcs fe f.regs (x.a::x.args) _ _ H (Nat.add_comm _ _) (sees_up hH hd _ _ hf.m) (hf.c 3 _ rfl) (local_args ((hH.l 1 rfl (Nat.le_of_ble_eq_true rfl)).trans rfl)) (by simp;omega);exact Nm_free (by simp))|refine Y36 ?_|refine Y28 ?_|refine Yk ?_|refine Yb ?_|refine Y3 ?_|refine Y2 ?_|refine Ym ?_|refine Yt ?_|refine Y7 ?_|refine Y8 ?_|refine Yn ?_|refine Y0 ?_|refine Yx ?_|refine Y1 ?_|refine Y5 ?_|refine Y6 ?_|((refine YD ?_ ?_)<;>intro _)|((refine YG ?_ ?_)<;>intro _)|((refine YC ?_ ?_)<;>intro _)|((refine YN ?_ ?_)<;>intro _))
 all_goals refine endsK_ret _ (.cons (.tmp rfl) .nil) ⟨rfl,?_⟩
 all_goals simp only [resultOf,Value.bool.injEq,rightS,hrd,rightT]
 all_goals (try simp only [Bool.not_eq_true',Bool.not_eq_false',Int.not_lt,Int.not_le,ge_iff_le,gt_iff_lt] at *)
 all_goals (repeat rw [if_neg (by omega)])
 all_goals (try rw [if_pos (by omega)])
 all_goals (rw [Bool.eq_iff_iff];simp only [Bool.and_eq_true,decide_eq_true_eq,beq_iff_eq,true_and,and_true,false_and,and_false,iff_false,false_iff,true_iff,iff_true,Bool.false_eq_true,reduceCtorEq, *])
 all_goals first
  | done
  | omega
  | exact ⟨fun hh=>⟨by omega,hh⟩,fun hh=>hh.2⟩
  | (constructor<;>intro hh<;>omega)
  | (simp [argsS]<;>omega)
  | trace_state
set_option maxHeartbeats 1000000 in
theorem right2_tf (p:ProgS) (f:FuncS) (x:InsS) (pb:Nat) (pe:TypeId) (P1:Option Addr) (d1:Nat) (P2:Option Addr) (d2:Nat) (fb fo:Nat) (fcs:List Value) (fe:TypeId) (F1:Option Addr) (c1:Nat) (F2:Option Addr) (c2:Nat) (F3:Option Addr) (c3:Nat) (A:Option Addr) (c:Nat) (h:Hp)
 (hp:ProgAt h pb p pe P1 d1 P2 d2) (hf:FuncAt h fb fo f fcs fe F1 c1 F2 c2 F3 c3) (hl:SlAt h A 2 x.args argR) (hn:x.args.length≤1000000000) (h2:twoS x.op=true∨x.op=27) :
 TF Tryd.prog 63 ⟨[.pointer (some ⟨pb,0,none⟩),.pointer (some ⟨fb,fo,none⟩),.agg ⟨insC x A c⟩]⟩ h (.bool (rightS p f x)) h:=by
 refine TF.dom fun hd=>?_
 have hpn:=hd _ _ hp.m
 have hfn:=hd _ _ hf.m
 have h3:¬ x.op=28∧¬ x.op=29:=by simp only [twoS,Bool.and_eq_true,decide_eq_true_eq] at h2;omega
 have ho:3≤x.op∧x.op≤21∨x.op=27:=by simp only [twoS,Bool.and_eq_true,decide_eq_true_eq] at h2;omega
 have hrd:readsS x=[x.a,x.b]:=by unfold readsS;rw [if_neg h3.1,if_neg h3.2,if_pos h2]
 refine TF.still (fn:=Tryd.f63) (c:=(Tryd.f63.body.getD .skip)) Tryd.func63 (by kernel_rfl) Tryd.ntmps63 (by kernel_rfl) (by simp) ?_
 conv=>arg 2;whnf
 repeat' (first|((with_reducible apply RS.callN true []);(iterate 3 exact rfl);exact reads2_at h2)|((with_reducible apply RS.callR true [1]);(iterate 3 exact rfl);exact fun H hH=>args_tfn _ fb fo fcs fe f.regs [x.a,x.b] _ _ H rfl (sees_up hH hd _ _ hf.m) (hf.c 3 _ rfl) (local_args ((hH.l 1 rfl (Nat.le_of_ble_eq_true rfl)).trans rfl)) (Nat.le_of_ble_eq_true rfl);exact Nm_free (by simp))|refine Y4q ?_|refine Y36 ?_|refine Y47 ?_|refine Yk ?_|refine Yb ?_|refine Y3 ?_|refine Y2 ?_|refine Ym ?_|refine Yt ?_|refine Y7 ?_|refine Y8 ?_|refine Yn ?_|refine Y0 ?_|refine Yx ?_|refine Y1 ?_|refine Y5 ?_|refine Y6 ?_|((refine YD ?_ ?_)<;>intro _)|((refine YG ?_ ?_)<;>intro _)|((refine YC ?_ ?_)<;>intro _)|((refine YN ?_ ?_)<;>intro _))
 all_goals refine endsK_ret _ (.cons (.tmp rfl) .nil) ⟨rfl,?_⟩
 all_goals simp only [resultOf,Value.bool.injEq,rightS,hrd,rightT]
 all_goals (try simp only [Bool.not_eq_true',Bool.not_eq_false',Int.not_lt,Int.not_le,ge_iff_le,gt_iff_lt] at *)
 all_goals (repeat rw [if_neg (by omega)])
 all_goals (try rw [if_pos (by omega)])
 all_goals (rw [Bool.eq_iff_iff];simp only [Bool.and_eq_true,decide_eq_true_eq,beq_iff_eq,true_and,and_true,false_and,and_false,iff_false,false_iff,true_iff,iff_true,Bool.false_eq_true,reduceCtorEq, *])
 all_goals first
  | done
  | omega
  | exact ⟨fun hh=>⟨by omega,hh⟩,fun hh=>hh.2⟩
  | (constructor<;>intro hh<;>omega)
  | (simp [argsS]<;>omega)
  | trace_state
set_option maxHeartbeats 1000000 in
theorem right1_tf (p:ProgS) (f:FuncS) (x:InsS) (pb:Nat) (pe:TypeId) (P1:Option Addr) (d1:Nat) (P2:Option Addr) (d2:Nat) (fb fo:Nat) (fcs:List Value) (fe:TypeId) (F1:Option Addr) (c1:Nat) (F2:Option Addr) (c2:Nat) (F3:Option Addr) (c3:Nat) (A:Option Addr) (c:Nat) (h:Hp)
 (hp:ProgAt h pb p pe P1 d1 P2 d2) (hf:FuncAt h fb fo f fcs fe F1 c1 F2 c2 F3 c3) (hl:SlAt h A 2 x.args argR) (hn:x.args.length≤1000000000) (h1:twoS x.op=false) (h2:¬ (23≤x.op∧x.op≤25)) (h3:¬ (27≤x.op∧x.op≤29)) :
 TF Tryd.prog 63 ⟨[.pointer (some ⟨pb,0,none⟩),.pointer (some ⟨fb,fo,none⟩),.agg ⟨insC x A c⟩]⟩ h (.bool (rightS p f x)) h:=by
 refine TF.dom fun hd=>?_
 have hpn:=hd _ _ hp.m
 have hfn:=hd _ _ hf.m
 have ho:¬ (3≤x.op∧x.op≤21):=by simp only [twoS,Bool.and_eq_false_iff,decide_eq_false_iff_not] at h1;omega
 have hrd:readsS x=[x.a]:=by unfold readsS;rw [if_neg (by omega),if_neg (by omega),if_neg (by rw [h1];simp;omega),if_neg h2]
 refine TF.still (fn:=Tryd.f63) (c:=(Tryd.f63.body.getD .skip)) Tryd.func63 (by kernel_rfl) Tryd.ntmps63 (by kernel_rfl) (by simp) ?_
 conv=>arg 2;whnf
 repeat' (first|refine Y4q ?_|refine Y36 ?_|((with_reducible apply RS.callN true []);(iterate 3 exact rfl);exact reads1_at h1 h2 h3)|((with_reducible apply RS.callR true [1]);(iterate 3 exact rfl);exact fun H hH=>args_tfn _ fb fo fcs fe f.regs [x.a] _ _ H rfl (sees_up hH hd _ _ hf.m) (hf.c 3 _ rfl) (local_args ((hH.l 1 rfl (Nat.le_of_ble_eq_true rfl)).trans rfl)) (Nat.le_of_ble_eq_true rfl);exact Nm_free (by simp))|refine Y47 ?_|refine Yk ?_|refine Yb ?_|refine Y2 ?_|refine Ym ?_|refine Yt ?_|refine Y7 ?_|refine Y8 ?_|refine Yn ?_|refine Y0 ?_|refine Yx ?_|refine Y1 ?_|refine Y5 ?_|refine Y6 ?_|((refine YD ?_ ?_)<;>intro _)|((refine YG ?_ ?_)<;>intro _)|((refine YC ?_ ?_)<;>intro _)|((refine YN ?_ ?_)<;>intro _))
 all_goals refine endsK_ret _ (.cons (.tmp rfl) .nil) ⟨rfl,?_⟩
 all_goals simp only [resultOf,Value.bool.injEq,rightS,hrd,rightT]
 all_goals (try simp only [Bool.not_eq_true',Bool.not_eq_false',Int.not_lt,Int.not_le,ge_iff_le,gt_iff_lt] at *)
 all_goals (repeat rw [if_neg (by omega)])
 all_goals (try rw [if_pos (by omega)])
 all_goals (rw [Bool.eq_iff_iff];simp only [Bool.and_eq_true,decide_eq_true_eq,beq_iff_eq,true_and,and_true,false_and,and_false,iff_false,false_iff,true_iff,iff_true,Bool.false_eq_true,reduceCtorEq, *])
 all_goals first
  | done
  | omega
  | exact ⟨fun hh=>⟨by omega,hh⟩,fun hh=>hh.2⟩
  | (constructor<;>intro hh<;>omega)
  | (simp [argsS]<;>omega)
  | trace_state
set_option maxHeartbeats 1000000 in
theorem right0_tf (p:ProgS) (f:FuncS) (x:InsS) (pb:Nat) (pe:TypeId) (P1:Option Addr) (d1:Nat) (P2:Option Addr) (d2:Nat) (fb fo:Nat) (fcs:List Value) (fe:TypeId) (F1:Option Addr) (c1:Nat) (F2:Option Addr) (c2:Nat) (F3:Option Addr) (c3:Nat) (A:Option Addr) (c:Nat) (h:Hp)
 (hp:ProgAt h pb p pe P1 d1 P2 d2) (hf:FuncAt h fb fo f fcs fe F1 c1 F2 c2 F3 c3) (hl:SlAt h A 2 x.args argR) (hn:x.args.length≤1000000000) (h1:23≤x.op∧x.op≤25) :
 TF Tryd.prog 63 ⟨[.pointer (some ⟨pb,0,none⟩),.pointer (some ⟨fb,fo,none⟩),.agg ⟨insC x A c⟩]⟩ h (.bool (rightS p f x)) h:=by
 refine TF.dom fun hd=>?_
 have hpn:=hd _ _ hp.m
 have hfn:=hd _ _ hf.m
 have ht:twoS x.op=false:=by unfold twoS;rw [Bool.eq_false_iff];simp;omega
 have hrd:readsS x=[]:=by unfold readsS;rw [if_neg (by omega),if_neg (by omega),if_neg (by rw [ht];simp;omega),if_pos h1]
 refine TF.still (fn:=Tryd.f63) (c:=(Tryd.f63.body.getD .skip)) Tryd.func63 (by kernel_rfl) Tryd.ntmps63 (by kernel_rfl) (by simp) ?_
 conv=>arg 2;whnf
 repeat' (first|((with_reducible apply RS.callR true []);(iterate 3 exact rfl);exact fun H hH=>args_tfn _ fb fo fcs fe f.regs [] _ _ H rfl (sees_up hH hd _ _ hf.m) (hf.c 3 _ rfl) SlAt.nil (Nat.le_of_ble_eq_true rfl);exact Nm_free (by simp))|((with_reducible apply RS.callP);(iterate 3 exact rfl);exact fun H=>reads0_tf x A c h1 H;exact Nm_free (by simp))|refine Y3l ?_|refine Y28 ?_|refine Yk ?_|refine Yb ?_|refine Y3 ?_|refine Y2 ?_|refine Ym ?_|refine Yt ?_|refine Y7 ?_|refine Y8 ?_|refine Yn ?_|refine Y0 ?_|refine Yx ?_|refine Y1 ?_|refine Y5 ?_|refine Y6 ?_|((refine YD ?_ ?_)<;>intro _)|((refine YG ?_ ?_)<;>intro _)|((refine YC ?_ ?_)<;>intro _)|((refine YN ?_ ?_)<;>intro _))
 all_goals refine endsK_ret _ (.cons (.tmp rfl) .nil) ⟨rfl,?_⟩
 all_goals simp only [resultOf,Value.bool.injEq,rightS,hrd,rightT]
 all_goals (try simp only [Bool.not_eq_true',Bool.not_eq_false',Int.not_lt,Int.not_le,ge_iff_le,gt_iff_lt] at *)
 all_goals (repeat rw [if_neg (by omega)])
 all_goals (try rw [if_pos (by omega)])
 all_goals (rw [Bool.eq_iff_iff];simp only [Bool.and_eq_true,decide_eq_true_eq,beq_iff_eq,true_and,and_true,false_and,and_false,iff_false,false_iff,true_iff,iff_true,Bool.false_eq_true,reduceCtorEq, *])
 all_goals first
  | done
  | omega
  | exact ⟨fun hh=>⟨by omega,hh⟩,fun hh=>hh.2⟩
  | (constructor<;>intro hh<;>omega)
  | (simp [argsS]<;>omega)
  | trace_state
def treadsS (t:TermS):List ArgS:=if t.kind=2 then [t.a,t.b] else if t.kind=3 then [t.a] else []
def nextS (t:TermS):List Int:=if t.kind=1 then [t.goto] else if t.kind=2 then [t.goto,t.els] else []
def targetsS (nb:Nat) (l:List Int):Bool:=l.all fun n=>decide (0≤n) && decide (n < nb)
theorem targetsS_cons (nb:Nat) (n:Int) (l:List Int):targetsS nb (n::l)=(decide (0≤n) && decide (n < nb) && targetsS nb l):=rfl
def endsS (f:FuncS) (t:TermS):Bool:=decide (1≤t.kind) && decide (t.kind≤3) && argsS f.regs (treadsS t) && (!(t.kind == 2) || (decide (16≤t.op) && decide (t.op≤21))) && targetsS f.blocks.length (nextS t)
theorem next1_at {h:SH} {t:TermS} (hk:t.kind=1) (H:Hp) (hH:Sees h true [] H):TF Tryd.prog 46 ⟨[.agg ⟨termC t⟩]⟩ H (.slice (some ⟨h.π h.k,0,none⟩) 1 1) (H.push ⟨⟨[.int .i64 t.goto]⟩,3⟩):=by
 have:=next1_tf t hk H
 rw [hH.n] at this;exact this
theorem next2_at {h:SH} {t:TermS} (hk:t.kind=2) (H:Hp) (hH:Sees h true [] H):TF Tryd.prog 46 ⟨[.agg ⟨termC t⟩]⟩ H (.slice (some ⟨h.π h.k,0,none⟩) 2 2) (H.push ⟨⟨[.int .i64 t.goto,.int .i64 t.els]⟩,3⟩):=by
 have:=next2_tf t hk H
 rw [hH.n] at this;exact this
theorem treads2_at {h:SH} {t:TermS} (hk:t.kind=2) (H:Hp) (hH:Sees h true [] H):TF Tryd.prog 17 ⟨[.agg ⟨termC t⟩]⟩ H (.slice (some ⟨h.π h.k,0,none⟩) 2 2) (H.push ⟨⟨argsC [t.a,t.b]⟩,46⟩):=by
 have:=treads2_tf t hk H
 rw [hH.n] at this;exact this
theorem treads3_at {h:SH} {t:TermS} (hk:t.kind=3) (H:Hp) (hH:Sees h true [] H):TF Tryd.prog 17 ⟨[.agg ⟨termC t⟩]⟩ H (.slice (some ⟨h.π h.k,0,none⟩) 1 1) (H.push ⟨⟨argsC [t.a]⟩,46⟩):=by
 have:=treads3_tf t hk H
 rw [hH.n] at this;exact this
theorem ends2_tf (f:FuncS) (t:TermS) (hk:t.kind=2) (fb fo:Nat) (fcs:List Value) (fe:TypeId) (A3:Option Addr) (c3:Nat) (h:Hp) (hF:h.m fb=some ⟨⟨fcs⟩,fe⟩) (hF3:fcs[fo+3]?=some (.int .i64 f.regs)) (hF5:fcs[fo+5]?=some (.slice A3 f.blocks.length c3)) (hnb:f.blocks.length≤1000000000000000) :
 TF Tryd.prog 64 ⟨[.pointer (some ⟨fb,fo,none⟩),.agg ⟨termC t⟩]⟩ h (.bool (endsS f t)) h:=by
 refine TF.dom fun hd=>?_
 have hFn:=hd _ _ hF
 have hrd:treadsS t=[t.a,t.b]:=by unfold treadsS;rw [if_pos hk]
 have hnx:nextS t=[t.goto,t.els]:=by unfold nextS;rw [if_neg (by omega),if_pos hk]
 refine TF.still (fn:=Tryd.f64) (c:=(Tryd.f64.body.getD .skip)) Tryd.func64 (by kernel_rfl) Tryd.ntmps64 (by kernel_rfl) (by simp) ?_
 conv=>arg 2;whnf
 repeat' (first|((with_reducible apply RS.callN true []);(iterate 3 exact rfl);exact treads2_at hk)|((with_reducible apply RS.callR true [1]);(iterate 3 exact rfl);exact fun H hH=>args_tfn _ fb fo fcs fe f.regs [t.a,t.b] _ _ H rfl (sees_up hH hd _ _ hF) hF3 (local_args ((hH.l 1 rfl (Nat.le_of_ble_eq_true rfl)).trans rfl)) (Nat.le_of_ble_eq_true rfl);exact Nm_free (by simp))|((with_reducible apply RS.callN true []);(iterate 3 exact rfl);exact next2_at hk)|refine Y2z ?_|refine Yk ?_|refine Yb ?_|refine Y3 ?_|refine Y2 ?_|refine Ym ?_|refine Y7 ?_|refine Y8 ?_|refine Yn ?_|refine Y0 ?_|refine Y2h ?_|refine Y1 ?_|refine Y5 ?_|((refine YD ?_ ?_)<;>intro _)|((refine YG ?_ ?_)<;>intro _)|((refine YC ?_ ?_)<;>intro _)|((refine YN ?_ ?_)<;>intro _))
 all_goals first
  | (refine endsK_ret _ (.cons (.tmp rfl) .nil) ⟨rfl, ?_⟩
     simp only [resultOf,Value.bool.injEq,endsS,hrd]
     try simp only [Bool.not_eq_true',Bool.not_eq_false',Int.not_lt,Int.not_le] at *
     rw [Bool.eq_iff_iff]
     simp [*]<;>omega)
  | skip
 refine W.loop (X:=Nat) (fun π i=>[(0,.pointer (some ⟨fb,fo,none⟩)),(38,.slice (some ⟨π 0,0,none⟩) 2 2),(39,.int .i64 ((2:Nat):Int)),(40,.int .i64 i)]) (fun _=>h) (fun π i=>[(0,some ⟨⟨([t.goto,t.els]:List Int).map fun z=>.int .i64 z⟩,3⟩)]) (fun i=>i≤2∧targetsS f.blocks.length [t.goto,t.els]=targetsS f.blocks.length (([t.goto,t.els]:List Int).drop i)) (fun i=>2 - i) [2] 0 ⟨Nat.zero_le _,rfl⟩ (by (refine FitL.mk ?_ ?_ ?_ ?_<;>(repeat' (first|exact trivial|exact rfl|apply And.intro));done)) ?_
 intro π i hI
 obtain ⟨hi,hI⟩:=hI
 dsimp only at hi hI ⊢
 by_cases hlt:i < 2
 ·obtain ⟨n,hn⟩:∃ n,([t.goto,t.els]:List Int)[i]?=some n:=⟨_,List.getElem?_eq_getElem hlt⟩
  have hv:(([t.goto,t.els]:List Int).map fun z=>Value.int .i64 z)[0+i * 1]?=some (.int .i64 n):=by
   rw [Nat.zero_add,Nat.mul_one,List.getElem?_map,hn];rfl
  have hdr:([t.goto,t.els]:List Int).drop i=n::([t.goto,t.els]:List Int).drop (i+1):=by
   rw [List.drop_eq_getElem_cons hlt]
   rw [List.getElem?_eq_getElem hlt] at hn
   injection hn with hn
   rw [hn]
  rw [hdr,targetsS_cons _ n] at hI
  repeat' (first|refine Y3e ?_|((with_reducible apply RS.load1At);(iterate 5 exact rfl);exact hv)|refine Y4w ?_|refine Yj ?_|refine Yk ?_|refine Yb ?_|refine Y3 ?_|refine Ym ?_|refine Yd ?_|refine Yt ?_|refine Yn ?_|refine Y0 ?_|refine Y1v ?_|refine Y1 ?_|refine Y5 ?_|((refine YD ?_ ?_)<;>intro _)|((refine YG ?_ ?_)<;>intro _)|((refine YC ?_ ?_)<;>intro _)|((refine YN ?_ ?_)<;>intro _))
  ·refine endsK_ret _ (.cons (.tmp rfl) .nil) ⟨rfl,?_⟩
   have hz:targetsS f.blocks.length (nextS t)=false:=by rw [hnx,hI];simp;omega
   simp only [resultOf,endsS,hrd,hz]
   simp
  ·refine endsK_ret _ (.cons (.tmp rfl) .nil) ⟨rfl,?_⟩
   have hz:targetsS f.blocks.length (nextS t)=false:=by rw [hnx,hI];simp;omega
   simp only [resultOf,endsS,hrd,hz]
   simp
  ·exact roundK_n (i+1) [0] rfl rfl ⟨by omega,by rw [hI,show (decide (0≤n) && decide (n < f.blocks.length))=true by simp;omega,Bool.true_and]⟩ (by omega) (by (refine FitL.mk ?_ ?_ ?_ ?_<;>(repeat' (first|exact trivial|exact rfl|apply And.intro));done))
 ·repeat (first|refine Y15 ?_|refine Y2 ?_|refine Y0 ?_|refine Y1r ?_|refine Y1 ?_|refine Y6 ?_|refine Yl ?_)
  refine endsK_ret _ (.cons (.tmp rfl) .nil) ⟨rfl,?_⟩
  have h2:i=2:=by omega
  subst h2
  have hI':targetsS f.blocks.length [t.goto,t.els]=true:=hI
  rw [← hnx] at hI'
  simp only [resultOf,Value.bool.injEq,endsS,hrd,hI']
  try simp only [Bool.not_eq_true',Bool.not_eq_false',Int.not_lt,Int.not_le] at *
  rw [Bool.eq_iff_iff]
  simp [*]<;>omega
theorem ends1_tf (f:FuncS) (t:TermS) (hk:t.kind=1) (fb fo:Nat) (fcs:List Value) (fe:TypeId) (A3:Option Addr) (c3:Nat) (h:Hp) (hF:h.m fb=some ⟨⟨fcs⟩,fe⟩) (hF3:fcs[fo+3]?=some (.int .i64 f.regs)) (hF5:fcs[fo+5]?=some (.slice A3 f.blocks.length c3)) (hnb:f.blocks.length≤1000000000000000) :
 TF Tryd.prog 64 ⟨[.pointer (some ⟨fb,fo,none⟩),.agg ⟨termC t⟩]⟩ h (.bool (endsS f t)) h:=by
 refine TF.dom fun hd=>?_
 have hFn:=hd _ _ hF
 have hrd:treadsS t=[]:=by unfold treadsS;rw [if_neg (by omega),if_neg (by omega)]
 have hnx:nextS t=[t.goto]:=by unfold nextS;rw [if_pos hk]
 refine TF.still (fn:=Tryd.f64) (c:=(Tryd.f64.body.getD .skip)) Tryd.func64 (by kernel_rfl) Tryd.ntmps64 (by kernel_rfl) (by simp) ?_
 conv=>arg 2;whnf
 repeat (first|((with_reducible apply RS.callR true []);(iterate 3 exact rfl);exact fun H hH=>args_tfn _ fb fo fcs fe f.regs [] _ _ H rfl (sees_up hH hd _ _ hF) hF3 SlAt.nil (Nat.le_of_ble_eq_true rfl);exact Nm_free (by simp))|((with_reducible apply RS.callP);(iterate 3 exact rfl);exact fun H=>treads0_tf t (by omega) (by omega) H;exact Nm_free (by simp))|((with_reducible apply RS.callN true []);(iterate 3 exact rfl);exact next1_at hk)|refine Y2z ?_|refine Yb ?_|refine Y2 ?_|refine Y7 ?_|refine Y8 ?_|refine Yn ?_|refine Y0 ?_|refine Y1y ?_|refine Y1 ?_|refine Y6 ?_)
 repeat' ((first|((refine YD ?_ ?_)<;>intro _)|((refine YG ?_ ?_)<;>intro _)|((refine YC ?_ ?_)<;>intro _)|((refine YN ?_ ?_)<;>intro _))<;>repeat (fail))
 all_goals first
  | (refine endsK_ret _ (.cons (.tmp rfl) .nil) ⟨rfl, ?_⟩
     simp only [resultOf,Value.bool.injEq,endsS,hrd]
     try simp only [Bool.not_eq_true',Bool.not_eq_false',Int.not_lt,Int.not_le] at *
     rw [Bool.eq_iff_iff]
     simp [*]<;>omega)
  | skip
 refine W.loop (X:=Nat) (fun π i=>[(0,.pointer (some ⟨fb,fo,none⟩)),(38,.slice (some ⟨π 0,0,none⟩) 1 1),(39,.int .i64 ((1:Nat):Int)),(40,.int .i64 i)]) (fun _=>h) (fun π i=>[(0,some ⟨⟨([t.goto]:List Int).map fun z=>.int .i64 z⟩,3⟩)]) (fun i=>i≤1∧targetsS f.blocks.length [t.goto]=targetsS f.blocks.length (([t.goto]:List Int).drop i)) (fun i=>1 - i) [1] 0 ⟨Nat.zero_le _,rfl⟩ (by (refine FitL.mk ?_ ?_ ?_ ?_<;>(repeat' (first|exact trivial|exact rfl|apply And.intro));done)) ?_
 intro π i hI
 obtain ⟨hi,hI⟩:=hI
 dsimp only at hi hI ⊢
 by_cases hlt:i < 1
 ·obtain ⟨n,hn⟩:∃ n,([t.goto]:List Int)[i]?=some n:=⟨_,List.getElem?_eq_getElem hlt⟩
  have hv:(([t.goto]:List Int).map fun z=>Value.int .i64 z)[0+i * 1]?=some (.int .i64 n):=by
   rw [Nat.zero_add,Nat.mul_one,List.getElem?_map,hn];rfl
  have hdr:([t.goto]:List Int).drop i=n::([t.goto]:List Int).drop (i+1):=by
   rw [List.drop_eq_getElem_cons hlt]
   rw [List.getElem?_eq_getElem hlt] at hn
   injection hn with hn
   rw [hn]
  rw [hdr,targetsS_cons _ n] at hI
  repeat' (first|refine Y3e ?_|((with_reducible apply RS.load1At);(iterate 5 exact rfl);exact hv)|refine Y4w ?_|refine Yj ?_|refine Yk ?_|refine Yb ?_|refine Y3 ?_|refine Ym ?_|refine Yd ?_|refine Yt ?_|refine Yn ?_|refine Y0 ?_|refine Y1v ?_|refine Y1 ?_|refine Y5 ?_|((refine YD ?_ ?_)<;>intro _)|((refine YG ?_ ?_)<;>intro _)|((refine YC ?_ ?_)<;>intro _)|((refine YN ?_ ?_)<;>intro _))
  ·refine endsK_ret _ (.cons (.tmp rfl) .nil) ⟨rfl,?_⟩
   have hz:targetsS f.blocks.length (nextS t)=false:=by rw [hnx,hI];simp;omega
   simp only [resultOf,endsS,hrd,hz]
   simp
  ·refine endsK_ret _ (.cons (.tmp rfl) .nil) ⟨rfl,?_⟩
   have hz:targetsS f.blocks.length (nextS t)=false:=by rw [hnx,hI];simp;omega
   simp only [resultOf,endsS,hrd,hz]
   simp
  ·exact roundK_n (i+1) [0] rfl rfl ⟨by omega,by rw [hI,show (decide (0≤n) && decide (n < f.blocks.length))=true by simp;omega,Bool.true_and]⟩ (by omega) (by (refine FitL.mk ?_ ?_ ?_ ?_<;>(repeat' (first|exact trivial|exact rfl|apply And.intro));done))
 ·repeat (first|refine Y15 ?_|refine Y2 ?_|refine Y0 ?_|refine Y1r ?_|refine Y1 ?_|refine Y6 ?_|refine Yl ?_)
  refine endsK_ret _ (.cons (.tmp rfl) .nil) ⟨rfl,?_⟩
  have h2:i=1:=by omega
  subst h2
  have hI':targetsS f.blocks.length [t.goto]=true:=hI
  rw [← hnx] at hI'
  simp only [resultOf,Value.bool.injEq,endsS,hrd,hI']
  try simp only [Bool.not_eq_true',Bool.not_eq_false',Int.not_lt,Int.not_le] at *
  rw [Bool.eq_iff_iff]
  simp [argsS, *]
theorem ends3_tf (f:FuncS) (t:TermS) (hk:t.kind=3) (fb fo:Nat) (fcs:List Value) (fe:TypeId) (A3:Option Addr) (c3:Nat) (h:Hp) (hF:h.m fb=some ⟨⟨fcs⟩,fe⟩) (hF3:fcs[fo+3]?=some (.int .i64 f.regs)) (hF5:fcs[fo+5]?=some (.slice A3 f.blocks.length c3)) (hnb:f.blocks.length≤1000000000000000) :
 TF Tryd.prog 64 ⟨[.pointer (some ⟨fb,fo,none⟩),.agg ⟨termC t⟩]⟩ h (.bool (endsS f t)) h:=by
 refine TF.dom fun hd=>?_
 have hFn:=hd _ _ hF
 have hrd:treadsS t=[t.a]:=by unfold treadsS;rw [if_neg (by omega),if_pos hk]
 have hnx:nextS t=[]:=by unfold nextS;rw [if_neg (by omega),if_neg (by omega)]
 refine TF.still (fn:=Tryd.f64) (c:=(Tryd.f64.body.getD .skip)) Tryd.func64 (by kernel_rfl) Tryd.ntmps64 (by kernel_rfl) (by simp) ?_
 conv=>arg 2;whnf
 repeat' (first|((with_reducible apply RS.callR true [1]);(iterate 3 exact rfl);exact fun H hH=>args_tfn _ fb fo fcs fe f.regs [t.a] _ _ H rfl (sees_up hH hd _ _ hF) hF3 (local_args ((hH.l 1 rfl (Nat.le_of_ble_eq_true rfl)).trans rfl)) (Nat.le_of_ble_eq_true rfl);exact Nm_free (by simp))|((with_reducible apply RS.callN true []);(iterate 3 exact rfl);exact treads3_at hk)|((with_reducible apply RS.callP);(iterate 3 exact rfl);exact fun H=>next0_tf t (by omega) (by omega) H;exact Nm_free (by simp))|refine Y2z ?_|refine Yk ?_|refine Yb ?_|refine Y2 ?_|refine Y7 ?_|refine Y8 ?_|refine Yn ?_|refine Y0 ?_|refine Y2h ?_|refine Y1 ?_|refine Y5 ?_|refine Y6 ?_|((refine YD ?_ ?_)<;>intro _)|((refine YG ?_ ?_)<;>intro _)|((refine YC ?_ ?_)<;>intro _)|((refine YN ?_ ?_)<;>intro _))
 all_goals first
  | (refine endsK_ret _ (.cons (.tmp rfl) .nil) ⟨rfl, ?_⟩
     simp only [resultOf,Value.bool.injEq,endsS,hrd]
     try simp only [Bool.not_eq_true',Bool.not_eq_false',Int.not_lt,Int.not_le] at *
     rw [Bool.eq_iff_iff]
     simp [*]<;>omega)
  | skip
 refine W.loop (X:=Unit) (fun π i=>[(0,.pointer (some ⟨fb,fo,none⟩)),(38,.slice none 0 0),(39,.int .i64 0),(40,.int .i64 0)]) (fun _=>h) (fun π i=>[]) (fun i=>True) (fun i=>0) [] () trivial (by (refine FitL.mk ?_ ?_ ?_ ?_<;>(repeat' (first|exact trivial|exact rfl|apply And.intro));done)) ?_
 intro π i _
 repeat (first|refine Y15 ?_|refine Y2 ?_|refine Y0 ?_|refine Y1r ?_|refine Y1 ?_|refine Y6 ?_|refine Yl ?_)
 refine endsK_ret _ (.cons (.tmp rfl) .nil) ⟨rfl,?_⟩
 simp only [resultOf,Value.bool.injEq,endsS,hrd,hnx,targetsS,List.all_nil]
 try simp only [Bool.not_eq_true',Bool.not_eq_false',Int.not_lt,Int.not_le] at *
 rw [Bool.eq_iff_iff]
 simp [*]
theorem ends0_tf (f:FuncS) (t:TermS) (hk:¬ (1≤t.kind∧t.kind≤3)) (fb fo:Nat) (fcs:List Value) (fe:TypeId) (A3:Option Addr) (c3:Nat) (h:Hp) (hF:h.m fb=some ⟨⟨fcs⟩,fe⟩) (hF3:fcs[fo+3]?=some (.int .i64 f.regs)) (hF5:fcs[fo+5]?=some (.slice A3 f.blocks.length c3)) (hnb:f.blocks.length≤1000000000000000) :
 TF Tryd.prog 64 ⟨[.pointer (some ⟨fb,fo,none⟩),.agg ⟨termC t⟩]⟩ h (.bool (endsS f t)) h:=by
 refine TF.dom fun hd=>?_
 have hFn:=hd _ _ hF
 have hrd:treadsS t=[]:=by unfold treadsS;rw [if_neg (by omega),if_neg (by omega)]
 refine TF.still (fn:=Tryd.f64) (c:=(Tryd.f64.body.getD .skip)) Tryd.func64 (by kernel_rfl) Tryd.ntmps64 (by kernel_rfl) (by simp) ?_
 conv=>arg 2;whnf
 repeat' (first|refine Y2b ?_|refine Yk ?_|refine Yb ?_|refine Y3 ?_|refine Ym ?_|refine Y7 ?_|refine Yn ?_|refine Y0 ?_|refine Y1z ?_|refine Y1 ?_|refine Y5 ?_|((refine YD ?_ ?_)<;>intro _)|((refine YG ?_ ?_)<;>intro _)|((refine YC ?_ ?_)<;>intro _)|((refine YN ?_ ?_)<;>intro _))
 all_goals first
  | (refine endsK_ret _ (.cons (.tmp rfl) .nil) ⟨rfl, ?_⟩
     simp only [resultOf,Value.bool.injEq,endsS,hrd]
     try simp only [Bool.not_eq_true',Bool.not_eq_false',Int.not_lt,Int.not_le] at *
     rw [Bool.eq_iff_iff]
     simp [*]<;>omega)
  | trace_state
theorem ends_tf (f:FuncS) (t:TermS) (fb fo:Nat) (fcs:List Value) (fe:TypeId) (A3:Option Addr) (c3:Nat) (h:Hp) (hF:h.m fb=some ⟨⟨fcs⟩,fe⟩) (hF3:fcs[fo+3]?=some (.int .i64 f.regs)) (hF5:fcs[fo+5]?=some (.slice A3 f.blocks.length c3)) (hnb:f.blocks.length≤1000000000000000) :
 TF Tryd.prog 64 ⟨[.pointer (some ⟨fb,fo,none⟩),.agg ⟨termC t⟩]⟩ h (.bool (endsS f t)) h:=by
 by_cases h1:t.kind=1
 ·exact ends1_tf f t h1 fb fo fcs fe A3 c3 h hF hF3 hF5 hnb
 by_cases h2:t.kind=2
 ·exact ends2_tf f t h2 fb fo fcs fe A3 c3 h hF hF3 hF5 hnb
 by_cases h3:t.kind=3
 ·exact ends3_tf f t h3 fb fo fcs fe A3 c3 h hF hF3 hF5 hnb
 ·exact ends0_tf f t (by omega) fb fo fcs fe A3 c3 h hF hF3 hF5 hnb
end Go.Proofs.YtjhloakacicdiaaDoor
