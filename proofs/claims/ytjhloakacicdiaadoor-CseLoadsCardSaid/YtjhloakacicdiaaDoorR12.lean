/-
  What the functions that the law reaches compute,told by plain data;it holds of programs that pass the check of right form and are light.
-/
import Derived.Test.YtjhloakacicdiaaDoorR11
import Derived.Test.YtjhloakacicdiaaDoorR9
import Derived.Test.YtjhloakacicdiaaDoorS2
set_option linter.unusedVariables false
set_option linter.unusedSimpArgs false
namespace Go.Proofs.YtjhloakacicdiaaDoor
open Go.AH
attribute [local irreducible] W RS
structure MixI (h:Hp) (q:Nat) (a l:List FactS) (i:Nat) (B:Hp):Prop where
 off:OffS (fun j=>j=q∧l≠[]) h B
 row:l≠[]→B.m q=some ⟨⟨factsC (meetL a (l.take i))⟩,145⟩
def FitF (l:List FactS):Prop:=∀ f∈l,fitI f.n
def WfF (l:List FactS):Prop:=∀ f∈l,f=anyF∨f.kind=1
def rankF (f:FactS):Nat:=if f.kind=1 then 1 else 0
def rankL (l:List FactS):Nat:=(l.map rankF).sum
def costV (r:Nat):List (List FactS)→List Bool→List Nat
 | l::ls,b::bs=>(if b=true then rankL l else r+1)::costV r ls bs
 | _,_=>[]
def leftS (r:Nat) (s:SolS):Nat:=2 * (costV r s.ins s.seen).sum+s.work.length
structure GoodS (s:SolS):Prop where
 fit:∀ l∈s.ins,FitF l
 wf:∀ l∈s.ins,WfF l
structure LeakS where
 kind:Int
 a:Int
 b:Int
structure RunS where
 fin:Int
 exit:Int
 out:List Int
 leaks:List LeakS
 steps:Int
 fuel:Int
 data:List Int
 stack:List Int
 sp:Int
 deep:Int
def leakW (x:LeakS):List Value:=[.int .i64 x.kind,.int .i64 x.a,.int .i64 x.b]
def intW (n:Int):List Value:=[.int .i64 n]
def bytesC (l:List Int):List Value:=l.map (.int .u8 ·)
def intsC (l:List Int):List Value:=l.map (.int .i64 ·)
def runC (pb:Nat) (s:RunS) (o l d t:Nat):List Value:=[.pointer (some ⟨pb,0,none⟩),.int .i64 s.fin,.int .i64 s.exit,rowVl 1 o s.out,rowVl 3 l s.leaks,.int .i64 s.steps,.int .i64 s.fuel,.slice (some ⟨d,0,none⟩) s.data.length s.data.length,.slice (some ⟨t,0,none⟩) s.stack.length s.stack.length,.int .i64 s.sp,.int .i64 s.deep]
def runL (pb:Nat) (s:RunS) (π:Nat→Nat):List (Nat × Option Blk):=[(0,some ⟨⟨runC pb s (π 1) (π 2) (π 3) (π 4)⟩,105⟩),(1,rowBk intW 2 s.out),(2,rowBk leakW 74 s.leaks),(3,some ⟨⟨bytesC s.data⟩,5⟩),(4,some ⟨⟨bytesC s.stack⟩,5⟩)]
set_option maxRecDepth 100000 in
theorem ok_tf (fin:Int) (cs:List Value) (xb:Nat) (h:Hp) (hM:h.m xb=some ⟨⟨cs⟩,105⟩) (hMc:cs[1]?=some (.int .i64 fin)):TF Tryd.prog 58 ⟨[.pointer (some ⟨xb,0,none⟩)]⟩ h (.bool (fin == 0)) h:=by
 refine TF.dom fun hd=>?_
 have hMn:=hd _ _ hM
 refine TF.still (fn:=Tryd.f58) (c:=(Tryd.f58.body.getD .skip)) Tryd.func58 (by kernel_rfl) Tryd.ntmps58 (by kernel_rfl) (by simp) ?_
 conv=>arg 2;whnf
 repeat (first|((with_reducible apply RS.load1B);(iterate 3 exact rfl);exact hM;exact hMn;exact hMc)|refine Y19 ?_|refine Ym ?_|refine Y0 ?_|refine Y1j ?_|refine Y1 ?_)
 repeat' ((first|((refine YD ?_ ?_)<;>intro _)|((refine YG ?_ ?_)<;>intro _)|((refine YC ?_ ?_)<;>intro _)|((refine YN ?_ ?_)<;>intro _))<;>repeat (fail))
 all_goals exact endsK_ret _ (.cons (.tmp rfl) .nil) ⟨rfl,rfl⟩
def argS (regs:List Int) (a:ArgS):Int:=if a.reg < 0 then a.num else regs.getD a.reg.toNat 0
set_option maxRecDepth 100000 in
theorem arg_tf (a:ArgS) (regs:List Int) (rb:Nat) (cs:List Value) (fb:Nat) (h:Hp) (hlen:regs.length≤1000000000) (hM:h.m fb=some ⟨⟨cs⟩,135⟩) (hMc:cs[1]?=some (.slice (some ⟨rb,0,none⟩) regs.length regs.length)) (hR:h.m rb=some ⟨⟨intsC regs⟩,2⟩):TF Tryd.prog 94 ⟨[.pointer (some ⟨fb,0,none⟩),.agg ⟨argC a⟩]⟩ h (.int .i64 (argS regs a)) h:=by
 refine TF.dom fun hd=>?_
 have hMn:=hd _ _ hM
 have hRn:=hd _ _ hR
 by_cases hn:0≤a.reg∧a.reg < regs.length
 ·obtain ⟨v,hv⟩:∃ v,regs[a.reg.toNat]?=some v:=⟨_,List.getElem?_eq_getElem (by omega)⟩
  have hav:argS regs a=v:=by unfold argS;rw [if_neg (by omega),List.getD_eq_getElem?_getD,hv];rfl
  have hRc:(intsC regs)[0+a.reg.toNat * 1]?=some (.int .i64 v):=by
   unfold intsC;rw [Nat.zero_add,Nat.mul_one,List.getElem?_map,hv];rfl
  refine TF.still (fn:=Tryd.f94) (c:=(Tryd.f94.body.getD .skip)) Tryd.func94 (by kernel_rfl) Tryd.ntmps94 (by kernel_rfl) (by simp) ?_
  conv=>arg 2;whnf
  repeat (first|((with_reducible apply RS.load1B);(iterate 3 exact rfl);first|exact hM;exact hMn;exact hMc|exact hR;exact hRn;exact hRc)|refine Y1b ?_|refine Y1o ?_|refine Y2 ?_|refine Y7 ?_|refine Y0 ?_|refine Y2x ?_|refine Y1 ?_|refine Y6 ?_)
  repeat' ((first|((refine YD ?_ ?_)<;>intro _)|((refine YG ?_ ?_)<;>intro _)|((refine YC ?_ ?_)<;>intro _)|((refine YN ?_ ?_)<;>intro _))<;>repeat (fail))
  all_goals exact endsK_ret _ (.cons (.tmp rfl) .nil) ⟨rfl,by rw [hav];rfl⟩
 ·have hneg:a.reg < 0→argS regs a=a.num:=fun hz=>by unfold argS;rw [if_pos hz]
  have hbig:¬ a.reg < 0→argS regs a=0:=fun hz=>by
   unfold argS;rw [if_neg hz,List.getD_eq_getElem?_getD,List.getElem?_eq_none (by omega)];rfl
  refine TF.still (fn:=Tryd.f94) (c:=(Tryd.f94.body.getD .skip)) Tryd.func94 (by kernel_rfl) Tryd.ntmps94 (by kernel_rfl) (by simp) ?_
  conv=>arg 2;whnf
  repeat' (first|((with_reducible apply RS.load1B);(iterate 3 exact rfl);exact hM;exact hMn;exact hMc)|refine Y1o ?_|refine Y3 ?_|refine Ym ?_|refine Y7 ?_|refine Y0 ?_|refine Y18 ?_|refine Y1 ?_|refine Y5 ?_|((refine YD ?_ ?_)<;>intro _)|((refine YG ?_ ?_)<;>intro _)|((refine YC ?_ ?_)<;>intro _)|((refine YN ?_ ?_)<;>intro _))
  ·exact endsK_ret _ (.cons (.tmp rfl) .nil) ⟨rfl,by rw [hneg (by assumption)];rfl⟩
  ·exact endsK_ret _ (.cons (.tmp rfl) .nil) ⟨rfl,by rw [hbig (by assumption)];rfl⟩
  all_goals (exfalso;omega)
theorem ParB_free {n K:Nat} {cs:List Value} {e:TypeId} (h:∀ v∈cs,bnd 0 v):ParB n K (fun _=>some ⟨⟨cs⟩,e⟩):=by
 refine ⟨fun τ π hτ=>?_,fun π N b hN hp hb u hu=>?_⟩
 ·show some _=_
  congr 1
  unfold subB
  congr 1
  apply Array.ext'
  simp only [List.map_toArray]
  exact (List.map_congr_left (g:=id) fun v hv=>sub_same (n:=0) (fun i hi=>by omega) v (h v hv)).trans (List.map_id cs)
 ·injection hb with hb
  subst hb
  exact bnd_mono (Nat.zero_le _) u (h u (by simpa using hu))
theorem ParB_row {n K:Nat} {α:Type} {w:α→List Value} {e:TypeId} (h:∀ a,∀ v∈w a,bnd 0 v) (l:List α):ParB n K (fun _=>rowBk w e l):=by
 have hall:∀ l:List α,∀ v∈rowC w l,bnd 0 v:=by
  intro l
  induction l with
  | nil=>intro v hv;cases hv
  | cons a l ih =>
   intro v hv
   rw [rowC,List.mem_append] at hv
   rcases hv with hv|hv
   ·exact ih v hv
   ·exact h a v hv
 cases l with
 | nil=>exact ⟨fun τ π hτ=>rfl,fun π N b hN hp hb=>by cases hb⟩
 | cons a l=>exact ParB_free (hall (a::l))
theorem sub_row {α:Type} {τ:Nat→Nat} {sz a:Nat} {l:List α}:sub τ (rowVl sz a l)=rowVl sz (τ a) l:=by
 cases l<;>simp [rowVl]
theorem bnd_row {α:Type} {N sz a:Nat} {l:List α} (h:a < N):bnd N (rowVl sz a l):=by
 cases l<;>simp [rowVl,h]
theorem run_par {n K:Nat} {pb:Nat} (s:RunS) (hp:pb < n) (hK:5≤K):ParL n K (runL pb s) 5:=by
 refine ⟨ParB_free fun v hv=>?_,ParB_free fun v hv=>?_,ParB_row (fun a v hv=>?_) s.leaks,ParB_row (fun a v hv=>?_) s.out,⟨fun τ π hτ=>?_,fun π N b hN hpi hb u hu=>?_⟩,trivial⟩
 ·obtain ⟨x,_,rfl⟩:=List.mem_map.1 hv;simp
 ·obtain ⟨x,_,rfl⟩:=List.mem_map.1 hv;simp
 ·simp only [leakW,List.mem_cons,List.not_mem_nil,or_false] at hv
  rcases hv with rfl|rfl|rfl<;>simp
 ·simp only [intW,List.mem_cons,List.not_mem_nil,or_false] at hv
  subst hv;simp
 ·show some _=some _
  congr 1
  unfold subB runC
  congr 1
  apply Array.ext'
  simp [sub_row,hτ pb hp]
 ·have hb:some _=some b:=hb
  injection hb with hb
  subst hb
  have h1:=hpi 1 (by omega)
  have h2:=hpi 2 (by omega)
  have h3:=hpi 3 (by omega)
  have h4:=hpi 4 (by omega)
  have hu:u∈runC pb s (π 1) (π 2) (π 3) (π 4):=by simpa using hu
  simp only [runC,List.mem_cons,List.not_mem_nil,or_false] at hu
  rcases hu with rfl|rfl|rfl|rfl|rfl|rfl|rfl|rfl|rfl|rfl|rfl
  all_goals first|exact bnd_row (by assumption)|(simp;done)|(simp;omega)
def stopS (s:RunS) (e:Int):RunS:=if s.fin=0 then { s with fin:=e } else s
set_option maxRecDepth 100000 in
theorem stop_to (B:Hp) (pb:Nat) (hpb:pb < B.n) (s:RunS) (e:Int):TO Tryd.prog 77 B 5 0 (fun π=>[.pointer (some ⟨π 0,0,none⟩),.int .i64 e]) (runL pb s) (fun _=>.tuple #[]) (runL pb (stopS s e)):=by
 refine TO.intro (fn:=Tryd.f77) (c:=(Tryd.f77.body.getD .skip)) Tryd.func77 (by kernel_rfl) Tryd.ntmps77 (fun π=>by kernel_rfl) (run_par _ hpb (by omega)) ⟨fun τ π hτ=>by simp,fun π N hN hp=>by simp⟩ fun π=>?_
 conv=>arg 2;whnf
 repeat' (first|((with_reducible apply RS.callR false [0]);(iterate 3 exact rfl);exact fun H hH=>ok_tf s.fin _ _ H (hH.l 0 rfl (by simp)) rfl;exact Nm_free (by simp))|refine Y20 ?_|refine Y4 ?_|refine Y0 ?_|refine Y1u ?_|refine Y1 ?_|((refine YD ?_ ?_)<;>intro _)|((refine YG ?_ ?_)<;>intro _)|((refine YC ?_ ?_)<;>intro _)|((refine YN ?_ ?_)<;>intro _))
 ·rw [show stopS s e={ s with fin:=e } from if_pos ‹_›]
  exact ⟨[],.nil,by (refine AtO.mk [0,1,2,3,4] rfl rfl rfl ?_ ?_ rfl<;>(repeat' (first|exact trivial|exact rfl|apply And.intro));done)⟩
 ·rw [show stopS s e=s from if_neg ‹_›]
  exact ⟨[],.nil,by (refine AtO.mk [0,1,2,3,4] rfl rfl rfl ?_ ?_ rfl<;>(repeat' (first|exact trivial|exact rfl|apply And.intro));done)⟩
def stepS (s:RunS):RunS:=if s.fin=0 then (if s.steps ≥ s.fuel then { s with fin:=42 } else { s with steps:=s.steps+1 }) else s
theorem stop_fresh (pb:Nat) (s:RunS) (e:Int) (π:Nat→Nat):FreshL (runL pb s π) (runL pb (stopS s e) π) 5:=by
 have h1:(stopS s e).out=s.out:=by unfold stopS;split<;>rfl
 have h2:(stopS s e).leaks=s.leaks:=by unfold stopS;split<;>rfl
 refine ⟨.inr ⟨_,rfl⟩,.inr ⟨_,rfl⟩,?_,?_,.inr ⟨_,rfl⟩,trivial⟩
 ·show rowBk leakW 74 (stopS s e).leaks=none∨∃ b,rowBk leakW 74 s.leaks=some b
  rw [h2];cases s.leaks with
  | nil=>exact .inl rfl
  | cons a l=>exact .inr ⟨_,rfl⟩
 ·show rowBk intW 2 (stopS s e).out=none∨∃ b,rowBk intW 2 s.out=some b
  rw [h1];cases s.out with
  | nil=>exact .inl rfl
  | cons a l=>exact .inr ⟨_,rfl⟩
set_option maxRecDepth 100000 in
theorem step_to (B:Hp) (pb:Nat) (hpb:pb < B.n) (s:RunS) (hst:0≤s.steps∧s.steps≤1000000000):TO Tryd.prog 93 B 5 0 (fun π=>[.pointer (some ⟨π 0,0,none⟩)]) (runL pb s) (fun _=>.bool ((stepS s).fin == 0)) (runL pb (stepS s)):=by
 refine TO.intro (fn:=Tryd.f93) (c:=(Tryd.f93.body.getD .skip)) Tryd.func93 (by kernel_rfl) Tryd.ntmps93 (fun π=>by kernel_rfl) (run_par _ hpb (by omega)) ⟨fun τ π hτ=>by simp,fun π N hN hp=>by simp⟩ fun π=>?_
 conv=>arg 2;whnf
 repeat' (first|refine Yw ?_|((with_reducible apply (RS.callO (vs:=[]) [0,1,2,3,4] 0));(iterate 2 exact rfl);exact stop_to _ pb hpb s 42;(iterate 2 exact rfl);exact ⟨rfl,rfl,rfl,rfl,rfl,trivial⟩;exact stop_fresh _ _ _ _)|refine Y19 ?_|refine Yk ?_|refine Yb ?_|refine Y3 ?_|refine Yu ?_|refine Yt ?_|refine Y7 ?_|refine Y4 ?_|refine Yn ?_|refine Y0 ?_|refine Y2u ?_|refine Y1 ?_|refine Y6 ?_|((refine YD ?_ ?_)<;>intro _)|((refine YG ?_ ?_)<;>intro _)|((refine YC ?_ ?_)<;>intro _)|((refine YN ?_ ?_)<;>intro _))
 ·rename_i q1 q2 q3
  exfalso
  rw [show stopS s 42={ s with fin:=42 } from if_pos q1] at q3
  exact absurd q3 (show ¬ (42:Int)=0 by decide)
 ·rename_i q1 q2 q3
  rw [show stepS s=stopS s 42 by unfold stepS stopS;rw [if_pos q1,if_pos q2,if_pos q1]]
  exact endsK_ret _ (.cons (.tmp rfl) .nil) (by (refine AtO.mk [0,1,2,3,4] rfl rfl rfl ?_ ?_ rfl<;>(repeat' (first|exact trivial|exact rfl|apply And.intro));done))
 ·rename_i q1 q2 q3
  rw [show stepS s={ s with steps:=s.steps+1 } by unfold stepS;rw [if_pos q1,if_neg q2]]
  exact endsK_ret _ (.cons (.tmp rfl) .nil) (by (refine AtO.mk [0,1,2,3,4] rfl rfl rfl ?_ ?_ rfl<;>(repeat' (first|exact trivial|exact rfl|apply And.intro));done))
 ·exact absurd ‹s.fin=0› ‹¬ s.fin=0›
 ·exact absurd ‹s.fin=0› ‹¬ s.fin=0›
 ·rename_i q1 q2
  rw [show stepS s=s by unfold stepS;rw [if_neg q1]]
  exact endsK_ret _ (.cons (.tmp rfl) .nil) (by (refine AtO.mk [0,1,2,3,4] rfl rfl rfl ?_ ?_ rfl<;>(repeat' (first|exact trivial|exact rfl|apply And.intro));done))
structure RunS.ok (s:RunS):Prop where
 data:s.data.length≤1000000
 stack:s.stack.length≤1000000
 steps:0≤s.steps∧s.steps≤1000000000
 leaks:s.leaks.length≤1000000000
 out:s.out.length≤1000000000
def inData (s:RunS) (at_:Int) (n:Nat):Prop:=65536≤at_∧at_≤65536+s.data.length - n
def inStack (s:RunS) (at_:Int) (n:Nat):Prop:=134217728 - (s.stack.length:Int)≤at_∧at_≤134217728 - n
set_option maxRecDepth 100000 in
theorem bytesD_to (B:Hp) (pb:Nat) (hpb:pb < B.n) (s:RunS) (hs:s.ok) (at_:Int) (n:Nat) (hn:1≤n∧n≤8) (hin:inData s at_ n):TO Tryd.prog 117 B 5 0 (fun π=>[.pointer (some ⟨π 0,0,none⟩),.int .i64 at_,.int .i64 n]) (runL pb s) (fun π=>.slice (some ⟨π 3,0+(at_ - 65536).toNat * 1,none⟩) n (s.data.length - (at_ - 65536).toNat)) (runL pb s):=by
 obtain ⟨hi1,hi2⟩:=hin
 have hd:=hs.data
 have hk:=hs.stack
 refine TO.intro (fn:=Tryd.f117) (c:=(Tryd.f117.body.getD .skip)) Tryd.func117 (by kernel_rfl) Tryd.ntmps117 (fun π=>by kernel_rfl) (run_par _ hpb (by omega)) ⟨fun τ π hτ=>by simp,fun π N hN hp=>by simpa using hp 3 (by omega)⟩ fun π=>?_
 conv=>arg 2;whnf
 repeat (first|refine Y2c ?_|refine Y3t ?_|refine Yj ?_|refine Yk ?_|refine Y3 ?_|refine Yu ?_|refine Y7 ?_|refine Y0 ?_|refine Y18 ?_|refine Y1 ?_|refine Y5 ?_)
 repeat' ((first|((refine YD ?_ ?_)<;>intro _)|((refine YG ?_ ?_)<;>intro _)|((refine YC ?_ ?_)<;>intro _)|((refine YN ?_ ?_)<;>intro _))<;>repeat (fail))
 all_goals exact endsK_ret _ (.cons (.tmp rfl) .nil) (by (refine AtO.mk [0,1,2,3,4] rfl rfl rfl ?_ ?_ rfl<;>(repeat' (first|exact trivial|exact rfl|apply And.intro));done))
set_option maxRecDepth 100000 in
theorem bytesK_to (B:Hp) (pb:Nat) (hpb:pb < B.n) (s:RunS) (hs:s.ok) (at_:Int) (n:Nat) (hn:1≤n∧n≤8) (hno:¬ inData s at_ n) (hin:inStack s at_ n):TO Tryd.prog 117 B 5 0 (fun π=>[.pointer (some ⟨π 0,0,none⟩),.int .i64 at_,.int .i64 n]) (runL pb s) (fun π=>.slice (some ⟨π 4,0+(at_ - (134217728 - (s.stack.length:Int))).toNat * 1,none⟩) n (s.stack.length - (at_ - (134217728 - (s.stack.length:Int))).toNat)) (runL pb s):=by
 obtain ⟨hi1,hi2⟩:=hin
 have hd:=hs.data
 have hk:=hs.stack
 refine TO.intro (fn:=Tryd.f117) (c:=(Tryd.f117.body.getD .skip)) Tryd.func117 (by kernel_rfl) Tryd.ntmps117 (fun π=>by kernel_rfl) (run_par _ hpb (by omega)) ⟨fun τ π hτ=>by simp,fun π N hN hp=>by simpa using hp 4 (by omega)⟩ fun π=>?_
 conv=>arg 2;whnf
 repeat (first|refine Y2c ?_|refine Y3t ?_|refine Yj ?_|refine Yk ?_|refine Y3 ?_|refine Y2 ?_|refine Yu ?_|refine Y7 ?_|refine Y0 ?_|refine Y18 ?_|refine Y1 ?_|refine Y5 ?_|refine Y6 ?_)
 repeat' ((first|((refine YD ?_ ?_)<;>intro _)|((refine YG ?_ ?_)<;>intro _)|((refine YC ?_ ?_)<;>intro _)|((refine YN ?_ ?_)<;>intro _))<;>repeat (fail))
 all_goals first|exact endsK_ret _ (.cons (.tmp rfl) .nil) (by (refine AtO.mk [0,1,2,3,4] rfl rfl rfl ?_ ?_ rfl<;>(repeat' (first|exact trivial|exact rfl|apply And.intro));done))|(exfalso;exact hno ⟨by omega,by omega⟩)|(exfalso;omega)
set_option maxRecDepth 100000 in
theorem bytesN_to (B:Hp) (pb:Nat) (hpb:pb < B.n) (s:RunS) (hs:s.ok) (at_:Int) (hat:-9223372036854775808≤at_∧at_≤9223372036854775807) (n:Nat) (hn:1≤n∧n≤8) (hno:¬ inData s at_ n) (hno2:¬ inStack s at_ n):TO Tryd.prog 117 B 5 0 (fun π=>[.pointer (some ⟨π 0,0,none⟩),.int .i64 at_,.int .i64 n]) (runL pb s) (fun π=>.slice none 0 0) (runL pb (stopS s 40)):=by
 have hd:=hs.data
 have hk:=hs.stack
 refine TO.intro (fn:=Tryd.f117) (c:=(Tryd.f117.body.getD .skip)) Tryd.func117 (by kernel_rfl) Tryd.ntmps117 (fun π=>by kernel_rfl) (run_par _ hpb (by omega)) ⟨fun τ π hτ=>by simp,fun π N hN hp=>by simp⟩ fun π=>?_
 conv=>arg 2;whnf
 repeat' (first|((with_reducible apply (RS.callO (vs:=[]) [0,1,2,3,4] 0));(iterate 2 exact rfl);exact stop_to _ pb hpb s 40;(iterate 2 exact rfl);exact ⟨rfl,rfl,rfl,rfl,rfl,trivial⟩;exact stop_fresh _ _ _ _)|refine Y2c ?_|refine Y3t ?_|refine Yj ?_|refine Yk ?_|refine Yb ?_|refine Y2 ?_|refine Ym ?_|refine Yu ?_|refine Yt ?_|refine Y7 ?_|refine Yn ?_|refine Y0 ?_|refine Yx ?_|refine Y1 ?_|refine Y6 ?_|((refine YD ?_ ?_)<;>intro _)|((refine YG ?_ ?_)<;>intro _)|((refine YC ?_ ?_)<;>intro _)|((refine YN ?_ ?_)<;>intro _))
 all_goals first|exact endsK_ret _ (.cons (.tmp rfl) .nil) (by (refine AtO.mk [0,1,2,3,4] rfl rfl rfl ?_ ?_ rfl<;>(repeat' (first|exact trivial|exact rfl|apply And.intro));done))|(exfalso;exact hno ⟨by omega,by omega⟩)|(exfalso;exact hno2 ⟨by omega,by omega⟩)|(exfalso;omega)|skip
def leakS (s:RunS) (x:LeakS):RunS:={ s with leaks:=x::s.leaks }
def lkL (pb:Nat) (s:RunS) (π:Nat→Nat):List (Nat × Option Blk):=[(0,some ⟨⟨runC pb s (π 1) (π 5) (π 3) (π 4)⟩,105⟩),(1,rowBk intW 2 s.out),(2,none),(3,some ⟨⟨bytesC s.data⟩,5⟩),(4,some ⟨⟨bytesC s.stack⟩,5⟩),(5,rowBk leakW 74 s.leaks)]
theorem lk_par {n K:Nat} {pb:Nat} (s:RunS) (hp:pb < n) (hK:6≤K):ParL n K (lkL pb s) 6:=by
 refine ⟨ParB_row (fun a v hv=>?_) s.leaks,ParB_free fun v hv=>?_,ParB_free fun v hv=>?_,⟨fun τ π hτ=>rfl,fun π N b hN hp hb=>by cases hb⟩,ParB_row (fun a v hv=>?_) s.out,⟨fun τ π hτ=>?_,fun π N b hN hpi hb u hu=>?_⟩,trivial⟩
 ·simp only [leakW,List.mem_cons,List.not_mem_nil,or_false] at hv
  rcases hv with rfl|rfl|rfl<;>simp
 ·obtain ⟨x,_,rfl⟩:=List.mem_map.1 hv;simp
 ·obtain ⟨x,_,rfl⟩:=List.mem_map.1 hv;simp
 ·simp only [intW,List.mem_cons,List.not_mem_nil,or_false] at hv
  subst hv;simp
 ·show some _=some _
  congr 1
  unfold subB runC
  congr 1
  apply Array.ext'
  simp [sub_row,hτ pb hp]
 ·have hb:some _=some b:=hb
  injection hb with hb
  subst hb
  have h1:=hpi 1 (by omega)
  have h2:=hpi 5 (by omega)
  have h3:=hpi 3 (by omega)
  have h4:=hpi 4 (by omega)
  have hu:u∈runC pb s (π 1) (π 5) (π 3) (π 4):=by simpa using hu
  simp only [runC,List.mem_cons,List.not_mem_nil,or_false] at hu
  rcases hu with rfl|rfl|rfl|rfl|rfl|rfl|rfl|rfl|rfl|rfl|rfl
  all_goals first|exact bnd_row (by assumption)|(simp;done)|(simp;omega)
def loadStep (v b:Int) (i:Nat):Int:=IntKind.i64.wrap ((BitVec.ofInt IntKind.i64.bits v ||| BitVec.ofInt IntKind.i64.bits (IntKind.i64.wrap (IntKind.i64.wrap b * 2 ^ (min (8 * (i:Int)).toNat IntKind.i64.bits)))).toNat:Int)
def loadV (dl:List Int) (o:Nat):Nat→Int
 | 0=>0
 | i+1=>loadStep (loadV dl o i) (dl.getD (o+i) 0) i
theorem AllB.opt {hl:List (Nat × Option Blk)} {m:List Nat} {i j:Nat} {ob:Option Blk} {l:List (Nat × Option Blk)} (hj:nthL m i=some j) (h:lookB hl j=ob) (ht:AllB hl m l):AllB hl m ((i,ob)::l):=by
 cases ob with
 | none=>exact ht
 | some b=>exact ⟨by rw [hj];exact h,ht⟩
theorem row_fresh {α:Type} (w:α→List Value) (e:TypeId) (l:List α):rowBk w e l=none∨∃ b,rowBk w e l=some b:=by
 cases l with
 | nil=>exact .inl rfl
 | cons a l=>exact .inr ⟨_,rfl⟩
theorem run_fresh (pb:Nat) (s:RunS) (π:Nat→Nat):FreshL (runL pb s π) (runL pb s π) 5:=⟨.inr ⟨_,rfl⟩,.inr ⟨_,rfl⟩,row_fresh _ _ _,row_fresh _ _ _,.inr ⟨_,rfl⟩,trivial⟩
set_option maxHeartbeats 2000000 in
set_option maxRecDepth 100000 in
theorem loadD_to (B:Hp) (pb:Nat) (hpb:pb < B.n) (s:RunS) (at_:Int) (hs:(leakS s ⟨2,at_,0⟩).ok) (n:Nat) (hn:1≤n∧n≤8) (sg:Bool) (hin:inData s at_ n):TO Tryd.prog 107 B 5 1 (fun π=>[.pointer (some ⟨π 0,0,none⟩),.int .i64 at_,.int .i64 n,.bool sg]) (runL pb s) (fun π=>.int .i64 (widenS (loadV s.data (at_ - 65536).toNat n) n sg)) (lkL pb (leakS s ⟨2,at_,0⟩)):=by
 have hd:s.data.length≤1000000:=hs.data
 have hlk:s.leaks.length+1≤1000000000:=hs.leaks
 have hin':=hin
 obtain ⟨hi1,hi2⟩:=hin'
 refine TO.intro (fn:=Tryd.f107) (c:=(Tryd.f107.body.getD .skip)) Tryd.func107 (by kernel_rfl) Tryd.ntmps107 (fun π=>by kernel_rfl) (lk_par _ hpb (by omega)) ⟨fun τ π hτ=>by simp,fun π N hN hp=>by simp⟩ fun π=>?_
 conv=>arg 2;whnf
 repeat (first|refine Y2d ?_|refine Yi ?_|((with_reducible apply (RS.callO (vs:=[]) [0,1,6,3,4] 0));(iterate 2 exact rfl);exact bytesD_to B pb hpb (leakS s ⟨2,at_,0⟩) hs at_ n hn hin;(iterate 2 exact rfl);exact ⟨rfl,rfl,rfl,rfl,rfl,trivial⟩;exact run_fresh _ _ _)|refine Yj ?_|refine Y7 ?_|refine Y4 ?_|refine Y11 ?_|refine Y0 ?_|refine Y1e ?_|refine Y1 ?_)
 refine W.loopP (X:=Nat × Int) (fun π y=>[(0,.pointer (some ⟨π 0,0,none⟩)),(2,.int .i64 n),(3,.bool sg),(9,.int .i64 y.2),(28,.slice (some ⟨π 3,0+(at_ - 65536).toNat * 1,none⟩) n (s.data.length - (at_ - 65536).toNat)),(29,.int .i64 n),(30,.int .i64 y.1)]) (fun _=>B) (fun π _=>lkL pb (leakS s ⟨2,at_,0⟩) π) (fun π' y=>EqUp π' π 5∧y.1≤n∧y.2=loadV s.data (at_ - 65536).toNat y.1) (fun y=>n - y.1) [0,1,2,3,4,6] (0,0) ⟨⟨rfl,rfl,rfl,rfl,rfl,trivial⟩,Nat.zero_le _,rfl⟩ (by (refine FitL.mk ?_ ?_ ?_ ?_<;>(repeat' (first|exact trivial|exact rfl|(refine AllB.opt rfl rfl ?_)|apply And.intro));done)) ?_
 rintro π' ⟨i,v⟩ ⟨hE,hI,hv⟩
 dsimp only at hI hv ⊢
 subst hv
 by_cases hlt:i < n
 ·have hb:s.data[(at_ - 65536).toNat+i]?=some (s.data.getD ((at_ - 65536).toNat+i) 0):=by
   rw [List.getD_eq_getElem?_getD,List.getElem?_eq_getElem (by omega)];rfl
  have hbyte:(bytesC s.data)[0+(at_ - 65536).toNat * 1+i * 1]?=some (.int .u8 (s.data.getD ((at_ - 65536).toNat+i) 0)):=by
   unfold bytesC;rw [Nat.zero_add,Nat.mul_one,Nat.mul_one,List.getElem?_map,hb];rfl
  repeat (first|refine Y4z ?_|refine Ya ?_|((with_reducible apply RS.load1At);(iterate 5 exact rfl);exact hbyte)|refine Y14 ?_|refine Y3 ?_|refine Yd ?_|refine Yu ?_|refine Yt ?_|refine Y0 ?_|refine Ye ?_|refine Y1 ?_|refine Y5 ?_)
  exact roundP_n (i+1,loadV s.data (at_ - 65536).toNat (i+1)) [0,1,2,3,4,5] rfl rfl ⟨hE,by dsimp only;omega,rfl⟩ (by dsimp only;omega) (by (refine FitL.mk ?_ ?_ ?_ ?_<;>(repeat' (first|exact trivial|exact rfl|(refine AllB.opt rfl rfl ?_)|apply And.intro));done))
 ·have hni:i=n:=by omega
  repeat (first|refine Y2o ?_|refine Yh ?_|refine Y2 ?_|refine Y0 ?_|refine Y27 ?_|refine Y1 ?_|refine Y6 ?_|refine Yl ?_)
  refine endsK_ret _ (.cons (.tmp rfl) .nil) (AtO.mk [0,1,2,3,4,5] rfl rfl rfl hE (by (repeat' (first|exact trivial|exact rfl|apply And.intro));done) ?_)
  rw [← hni];rfl
set_option maxHeartbeats 2000000 in
set_option maxRecDepth 100000 in
theorem loadK_to (B:Hp) (pb:Nat) (hpb:pb < B.n) (s:RunS) (at_:Int) (hs:(leakS s ⟨2,at_,0⟩).ok) (n:Nat) (hn:1≤n∧n≤8) (sg:Bool) (hno:¬ inData s at_ n) (hin:inStack s at_ n):TO Tryd.prog 107 B 5 1 (fun π=>[.pointer (some ⟨π 0,0,none⟩),.int .i64 at_,.int .i64 n,.bool sg]) (runL pb s) (fun π=>.int .i64 (widenS (loadV s.stack (at_ - (134217728 - (s.stack.length:Int))).toNat n) n sg)) (lkL pb (leakS s ⟨2,at_,0⟩)):=by
 have hd:s.stack.length≤1000000:=hs.stack
 have hlk:s.leaks.length+1≤1000000000:=hs.leaks
 have hin':=hin
 obtain ⟨hi1,hi2⟩:=hin'
 refine TO.intro (fn:=Tryd.f107) (c:=(Tryd.f107.body.getD .skip)) Tryd.func107 (by kernel_rfl) Tryd.ntmps107 (fun π=>by kernel_rfl) (lk_par _ hpb (by omega)) ⟨fun τ π hτ=>by simp,fun π N hN hp=>by simp⟩ fun π=>?_
 conv=>arg 2;whnf
 repeat (first|refine Y2d ?_|refine Yi ?_|((with_reducible apply (RS.callO (vs:=[]) [0,1,6,3,4] 0));(iterate 2 exact rfl);exact bytesK_to B pb hpb (leakS s ⟨2,at_,0⟩) hs at_ n hn hno hin;(iterate 2 exact rfl);exact ⟨rfl,rfl,rfl,rfl,rfl,trivial⟩;exact run_fresh _ _ _)|refine Yj ?_|refine Y7 ?_|refine Y4 ?_|refine Y11 ?_|refine Y0 ?_|refine Y1e ?_|refine Y1 ?_)
 refine W.loopP (X:=Nat × Int) (fun π y=>[(0,.pointer (some ⟨π 0,0,none⟩)),(2,.int .i64 n),(3,.bool sg),(9,.int .i64 y.2),(28,.slice (some ⟨π 4,0+(at_ - (134217728 - (s.stack.length:Int))).toNat * 1,none⟩) n (s.stack.length - (at_ - (134217728 - (s.stack.length:Int))).toNat)),(29,.int .i64 n),(30,.int .i64 y.1)]) (fun _=>B) (fun π _=>lkL pb (leakS s ⟨2,at_,0⟩) π) (fun π' y=>EqUp π' π 5∧y.1≤n∧y.2=loadV s.stack (at_ - (134217728 - (s.stack.length:Int))).toNat y.1) (fun y=>n - y.1) [0,1,2,3,4,6] (0,0) ⟨⟨rfl,rfl,rfl,rfl,rfl,trivial⟩,Nat.zero_le _,rfl⟩ (by (refine FitL.mk ?_ ?_ ?_ ?_<;>(repeat' (first|exact trivial|exact rfl|(refine AllB.opt rfl rfl ?_)|apply And.intro));done)) ?_
 rintro π' ⟨i,v⟩ ⟨hE,hI,hv⟩
 dsimp only at hI hv ⊢
 subst hv
 by_cases hlt:i < n
 ·have hb:s.stack[(at_ - (134217728 - (s.stack.length:Int))).toNat+i]?=some (s.stack.getD ((at_ - (134217728 - (s.stack.length:Int))).toNat+i) 0):=by
   rw [List.getD_eq_getElem?_getD,List.getElem?_eq_getElem (by omega)];rfl
  have hbyte:(bytesC s.stack)[0+(at_ - (134217728 - (s.stack.length:Int))).toNat * 1+i * 1]?=some (.int .u8 (s.stack.getD ((at_ - (134217728 - (s.stack.length:Int))).toNat+i) 0)):=by
   unfold bytesC;rw [Nat.zero_add,Nat.mul_one,Nat.mul_one,List.getElem?_map,hb];rfl
  repeat (first|refine Y4z ?_|refine Ya ?_|((with_reducible apply RS.load1At);(iterate 5 exact rfl);exact hbyte)|refine Y14 ?_|refine Y3 ?_|refine Yd ?_|refine Yu ?_|refine Yt ?_|refine Y0 ?_|refine Ye ?_|refine Y1 ?_|refine Y5 ?_)
  exact roundP_n (i+1,loadV s.stack (at_ - (134217728 - (s.stack.length:Int))).toNat (i+1)) [0,1,2,3,4,5] rfl rfl ⟨hE,by dsimp only;omega,rfl⟩ (by dsimp only;omega) (by (refine FitL.mk ?_ ?_ ?_ ?_<;>(repeat' (first|exact trivial|exact rfl|(refine AllB.opt rfl rfl ?_)|apply And.intro));done))
 ·have hni:i=n:=by omega
  repeat (first|refine Y2o ?_|refine Yh ?_|refine Y2 ?_|refine Y0 ?_|refine Y27 ?_|refine Y1 ?_|refine Y6 ?_|refine Yl ?_)
  refine endsK_ret _ (.cons (.tmp rfl) .nil) (AtO.mk [0,1,2,3,4,5] rfl rfl rfl hE (by (repeat' (first|exact trivial|exact rfl|apply And.intro));done) ?_)
  rw [← hni];rfl
set_option maxHeartbeats 2000000 in
set_option maxRecDepth 100000 in
theorem loadN_to (B:Hp) (pb:Nat) (hpb:pb < B.n) (s:RunS) (at_:Int) (hs:(leakS s ⟨2,at_,0⟩).ok) (hat:-9223372036854775808≤at_∧at_≤9223372036854775807) (n:Nat) (hn:1≤n∧n≤8) (sg:Bool) (hno:¬ inData s at_ n) (hno2:¬ inStack s at_ n):TO Tryd.prog 107 B 5 1 (fun π=>[.pointer (some ⟨π 0,0,none⟩),.int .i64 at_,.int .i64 n,.bool sg]) (runL pb s) (fun π=>.int .i64 (widenS 0 n sg)) (lkL pb (stopS (leakS s ⟨2,at_,0⟩) 40)):=by
 have hlk:s.leaks.length+1≤1000000000:=hs.leaks
 refine TO.intro (fn:=Tryd.f107) (c:=(Tryd.f107.body.getD .skip)) Tryd.func107 (by kernel_rfl) Tryd.ntmps107 (fun π=>by kernel_rfl) (lk_par _ hpb (by omega)) ⟨fun τ π hτ=>by simp,fun π N hN hp=>by simp⟩ fun π=>?_
 conv=>arg 2;whnf
 repeat (first|refine Y2d ?_|refine Yi ?_|((with_reducible apply (RS.callO (vs:=[]) [0,1,6,3,4] 0));(iterate 2 exact rfl);exact bytesN_to B pb hpb (leakS s ⟨2,at_,0⟩) hs at_ hat n hn hno hno2;(iterate 2 exact rfl);exact ⟨rfl,rfl,rfl,rfl,rfl,trivial⟩;exact stop_fresh _ _ _ _)|refine Yj ?_|refine Y7 ?_|refine Y4 ?_|refine Y11 ?_|refine Y0 ?_|refine Y1e ?_|refine Y1 ?_)
 refine W.loopP (X:=Unit) (fun π y=>[(0,.pointer (some ⟨π 0,0,none⟩)),(2,.int .i64 n),(3,.bool sg),(9,.int .i64 0),(28,.slice none 0 0),(29,.int .i64 (0:Nat)),(30,.int .i64 0)]) (fun _=>B) (fun π _=>lkL pb (stopS (leakS s ⟨2,at_,0⟩) 40) π) (fun π' y=>EqUp π' π 5) (fun y=>0) [0,1,2,3,4,6] () ⟨rfl,rfl,rfl,rfl,rfl,trivial⟩ (by (refine FitL.mk ?_ ?_ ?_ ?_<;>(repeat' (first|exact trivial|exact rfl|(refine AllB.opt rfl rfl ?_)|apply And.intro));done)) ?_
 intro π' _ hE
 repeat (first|refine Y2o ?_|refine Yh ?_|refine Y2 ?_|refine Y0 ?_|refine Y27 ?_|refine Y1 ?_|refine Y6 ?_|refine Yl ?_)
 refine endsK_ret _ (.cons (.tmp rfl) .nil) (AtO.mk [0,1,2,3,4,5] rfl rfl rfl hE (by (repeat' (first|exact trivial|exact rfl|apply And.intro));done) ?_)
 rfl
def storeByte (v:Int) (i:Nat):Int:=IntKind.u8.wrap (v.fdiv (2 ^ (min (8 * (i:Int)).toNat IntKind.i64.bits)))
def storeV (d:List Int) (o:Nat) (v:Int):Nat→List Int
 | 0=>d
 | i+1=>(storeV d o v i).set (o+i) (storeByte v i)
theorem storeV_len (d:List Int) (o:Nat) (v:Int):∀ i,(storeV d o v i).length=d.length:=by
 intro i
 induction i with
 | zero=>rfl
 | succ i ih=>rw [storeV,List.length_set,ih]
theorem setL_bytes (d:List Int) (k:Nat) (b:Int):setL (bytesC d) k [.int .u8 b]=bytesC (d.set k b):=by
 rw [setL_cons,setL_nil];unfold bytesC;rw [List.map_set]
theorem runC_data (pb:Nat) (s:RunS) (d:List Int) (o l dd t:Nat) (h:d.length=s.data.length):runC pb { s with data:=d } o l dd t=runC pb s o l dd t:=by
 unfold runC;dsimp only;rw [h]
theorem runC_stack (pb:Nat) (s:RunS) (d:List Int) (o l dd t:Nat) (h:d.length=s.stack.length):runC pb { s with stack:=d } o l dd t=runC pb s o l dd t:=by
 unfold runC;dsimp only;rw [h]
def stL (pb:Nat) (s:RunS) (d k:List Int) (π:Nat→Nat):List (Nat × Option Blk):=[(0,some ⟨⟨runC pb s (π 1) (π 5) (π 3) (π 4)⟩,105⟩),(1,rowBk intW 2 s.out),(2,none),(3,some ⟨⟨bytesC d⟩,5⟩),(4,some ⟨⟨bytesC k⟩,5⟩),(5,rowBk leakW 74 s.leaks)]
set_option maxHeartbeats 2000000 in
set_option maxRecDepth 100000 in
theorem storeD_to (B:Hp) (pb:Nat) (hpb:pb < B.n) (s:RunS) (at_:Int) (hs:(leakS s ⟨3,at_,0⟩).ok) (n:Nat) (hn:1≤n∧n≤8) (v:Int) (hin:inData s at_ n):TO Tryd.prog 108 B 5 1 (fun π=>[.pointer (some ⟨π 0,0,none⟩),.int .i64 at_,.int .i64 n,.int .i64 v]) (runL pb s) (fun π=>.tuple #[]) (lkL pb { leakS s ⟨3,at_,0⟩ with data:=storeV s.data (at_ - 65536).toNat v n }):=by
 have hd:s.data.length≤1000000:=hs.data
 have hlk:s.leaks.length+1≤1000000000:=hs.leaks
 have hin':=hin
 obtain ⟨hi1,hi2⟩:=hin'
 refine TO.intro (fn:=Tryd.f108) (c:=(Tryd.f108.body.getD .skip)) Tryd.func108 (by kernel_rfl) Tryd.ntmps108 (fun π=>by kernel_rfl) (lk_par _ hpb (by omega)) ⟨fun τ π hτ=>by simp,fun π N hN hp=>by simp⟩ fun π=>?_
 conv=>arg 2;whnf
 repeat (first|refine Y2e ?_|refine Yi ?_|((with_reducible apply (RS.callO (vs:=[]) [0,1,6,3,4] 0));(iterate 2 exact rfl);exact bytesD_to B pb hpb (leakS s ⟨3,at_,0⟩) hs at_ n hn hin;(iterate 2 exact rfl);exact ⟨rfl,rfl,rfl,rfl,rfl,trivial⟩;exact run_fresh _ _ _)|refine Yj ?_|refine Y7 ?_|refine Y4 ?_|refine Y11 ?_|refine Y0 ?_|refine Y1e ?_|refine Y1 ?_)
 refine W.loopP (X:=Nat) (fun π y=>[(0,.pointer (some ⟨π 0,0,none⟩)),(3,.int .i64 v),(8,.slice (some ⟨π 3,0+(at_ - 65536).toNat * 1,none⟩) n (s.data.length - (at_ - 65536).toNat)),(28,.int .i64 n),(29,.int .i64 y)]) (fun _=>B) (fun π y=>stL pb (leakS s ⟨3,at_,0⟩) (storeV s.data (at_ - 65536).toNat v y) s.stack π) (fun π' y=>EqUp π' π 5∧y≤n) (fun y=>n - y) [0,1,2,3,4,6] 0 ⟨⟨rfl,rfl,rfl,rfl,rfl,trivial⟩,Nat.zero_le _⟩ (by (refine FitL.mk ?_ ?_ ?_ ?_<;>(repeat' (first|exact trivial|exact rfl|(refine AllB.opt rfl rfl ?_)|apply And.intro));done)) ?_
 rintro π' i ⟨hE,hI⟩
 dsimp only at hI ⊢
 by_cases hlt:i < n
 ·have hset:setL (bytesC (storeV s.data (at_ - 65536).toNat v i)) (0+(at_ - 65536).toNat * 1+i * 1) [.int .u8 (storeByte v i)]=bytesC (storeV s.data (at_ - 65536).toNat v (i+1)):=by
   rw [Nat.zero_add,Nat.mul_one,Nat.mul_one];exact setL_bytes _ _ _
  have hfit:0+(at_ - 65536).toNat * 1+i * 1+1≤(bytesC (storeV s.data (at_ - 65536).toNat v i)).length:=by
   unfold bytesC;rw [List.length_map,storeV_len];omega
  repeat (first|refine Y50 ?_|refine Ya ?_|refine Y3w ?_|refine Y14 ?_|refine Y3 ?_|refine Yd ?_|refine Yu ?_|refine Y0 ?_|refine Ye ?_|refine Y1 ?_|refine Y5 ?_)
  exact roundP_n (i+1) [0,1,2,3,4,5] rfl rfl ⟨hE,by omega⟩ (by omega) (by (refine FitL.mk ?_ ?_ ?_ ?_<;>(repeat' (first|exact trivial|exact rfl|(refine AllB.opt rfl rfl ?_)|apply And.intro));done))
 ·have hni:i=n:=by omega
  subst hni
  repeat (first|refine Y2 ?_|refine Y0 ?_|refine Y4b ?_|refine Y1 ?_|refine Y6 ?_|refine Yl ?_)
  exact ⟨[],.nil,AtO.mk [0,1,2,3,4,5] rfl rfl rfl hE ⟨congrArg (fun c=>some (Blk.mk ⟨c⟩ 105)) (runC_data pb (leakS s ⟨3,at_,0⟩) _ _ _ _ _ (storeV_len _ _ _ _)),rfl,rfl,rfl,rfl,rfl,trivial⟩ rfl⟩
set_option maxHeartbeats 2000000 in
set_option maxRecDepth 100000 in
theorem storeK_to (B:Hp) (pb:Nat) (hpb:pb < B.n) (s:RunS) (at_:Int) (hs:(leakS s ⟨3,at_,0⟩).ok) (n:Nat) (hn:1≤n∧n≤8) (v:Int) (hno:¬ inData s at_ n) (hin:inStack s at_ n):TO Tryd.prog 108 B 5 1 (fun π=>[.pointer (some ⟨π 0,0,none⟩),.int .i64 at_,.int .i64 n,.int .i64 v]) (runL pb s) (fun π=>.tuple #[]) (lkL pb { leakS s ⟨3,at_,0⟩ with stack:=storeV s.stack (at_ - (134217728 - (s.stack.length:Int))).toNat v n }):=by
 have hd:s.stack.length≤1000000:=hs.stack
 have hlk:s.leaks.length+1≤1000000000:=hs.leaks
 have hin':=hin
 obtain ⟨hi1,hi2⟩:=hin'
 refine TO.intro (fn:=Tryd.f108) (c:=(Tryd.f108.body.getD .skip)) Tryd.func108 (by kernel_rfl) Tryd.ntmps108 (fun π=>by kernel_rfl) (lk_par _ hpb (by omega)) ⟨fun τ π hτ=>by simp,fun π N hN hp=>by simp⟩ fun π=>?_
 conv=>arg 2;whnf
 repeat (first|refine Y2e ?_|refine Yi ?_|((with_reducible apply (RS.callO (vs:=[]) [0,1,6,3,4] 0));(iterate 2 exact rfl);exact bytesK_to B pb hpb (leakS s ⟨3,at_,0⟩) hs at_ n hn hno hin;(iterate 2 exact rfl);exact ⟨rfl,rfl,rfl,rfl,rfl,trivial⟩;exact run_fresh _ _ _)|refine Yj ?_|refine Y7 ?_|refine Y4 ?_|refine Y11 ?_|refine Y0 ?_|refine Y1e ?_|refine Y1 ?_)
 refine W.loopP (X:=Nat) (fun π y=>[(0,.pointer (some ⟨π 0,0,none⟩)),(3,.int .i64 v),(8,.slice (some ⟨π 4,0+(at_ - (134217728 - (s.stack.length:Int))).toNat * 1,none⟩) n (s.stack.length - (at_ - (134217728 - (s.stack.length:Int))).toNat)),(28,.int .i64 n),(29,.int .i64 y)]) (fun _=>B) (fun π y=>stL pb (leakS s ⟨3,at_,0⟩) s.data (storeV s.stack (at_ - (134217728 - (s.stack.length:Int))).toNat v y) π) (fun π' y=>EqUp π' π 5∧y≤n) (fun y=>n - y) [0,1,2,3,4,6] 0 ⟨⟨rfl,rfl,rfl,rfl,rfl,trivial⟩,Nat.zero_le _⟩ (by (refine FitL.mk ?_ ?_ ?_ ?_<;>(repeat' (first|exact trivial|exact rfl|(refine AllB.opt rfl rfl ?_)|apply And.intro));done)) ?_
 rintro π' i ⟨hE,hI⟩
 dsimp only at hI ⊢
 by_cases hlt:i < n
 ·have hset:setL (bytesC (storeV s.stack (at_ - (134217728 - (s.stack.length:Int))).toNat v i)) (0+(at_ - (134217728 - (s.stack.length:Int))).toNat * 1+i * 1) [.int .u8 (storeByte v i)]=bytesC (storeV s.stack (at_ - (134217728 - (s.stack.length:Int))).toNat v (i+1)):=by
   rw [Nat.zero_add,Nat.mul_one,Nat.mul_one];exact setL_bytes _ _ _
  have hfit:0+(at_ - (134217728 - (s.stack.length:Int))).toNat * 1+i * 1+1≤(bytesC (storeV s.stack (at_ - (134217728 - (s.stack.length:Int))).toNat v i)).length:=by
   unfold bytesC;rw [List.length_map,storeV_len];omega
  repeat (first|refine Y50 ?_|refine Ya ?_|refine Y3w ?_|refine Y14 ?_|refine Y3 ?_|refine Yd ?_|refine Yu ?_|refine Y0 ?_|refine Ye ?_|refine Y1 ?_|refine Y5 ?_)
  exact roundP_n (i+1) [0,1,2,3,4,5] rfl rfl ⟨hE,by omega⟩ (by omega) (by (refine FitL.mk ?_ ?_ ?_ ?_<;>(repeat' (first|exact trivial|exact rfl|(refine AllB.opt rfl rfl ?_)|apply And.intro));done))
 ·have hni:i=n:=by omega
  subst hni
  repeat (first|refine Y2 ?_|refine Y0 ?_|refine Y4b ?_|refine Y1 ?_|refine Y6 ?_|refine Yl ?_)
  exact ⟨[],.nil,AtO.mk [0,1,2,3,4,5] rfl rfl rfl hE ⟨congrArg (fun c=>some (Blk.mk ⟨c⟩ 105)) (runC_stack pb (leakS s ⟨3,at_,0⟩) _ _ _ _ _ (storeV_len _ _ _ _)),rfl,rfl,rfl,rfl,rfl,trivial⟩ rfl⟩
set_option maxHeartbeats 2000000 in
set_option maxRecDepth 100000 in
theorem storeN_to (B:Hp) (pb:Nat) (hpb:pb < B.n) (s:RunS) (at_:Int) (hs:(leakS s ⟨3,at_,0⟩).ok) (hat:-9223372036854775808≤at_∧at_≤9223372036854775807) (n:Nat) (hn:1≤n∧n≤8) (v:Int) (hno:¬ inData s at_ n) (hno2:¬ inStack s at_ n):TO Tryd.prog 108 B 5 1 (fun π=>[.pointer (some ⟨π 0,0,none⟩),.int .i64 at_,.int .i64 n,.int .i64 v]) (runL pb s) (fun π=>.tuple #[]) (lkL pb (stopS (leakS s ⟨3,at_,0⟩) 40)):=by
 have hlk:s.leaks.length+1≤1000000000:=hs.leaks
 refine TO.intro (fn:=Tryd.f108) (c:=(Tryd.f108.body.getD .skip)) Tryd.func108 (by kernel_rfl) Tryd.ntmps108 (fun π=>by kernel_rfl) (lk_par _ hpb (by omega)) ⟨fun τ π hτ=>by simp,fun π N hN hp=>by simp⟩ fun π=>?_
 conv=>arg 2;whnf
 repeat (first|refine Y2e ?_|refine Yi ?_|((with_reducible apply (RS.callO (vs:=[]) [0,1,6,3,4] 0));(iterate 2 exact rfl);exact bytesN_to B pb hpb (leakS s ⟨3,at_,0⟩) hs at_ hat n hn hno hno2;(iterate 2 exact rfl);exact ⟨rfl,rfl,rfl,rfl,rfl,trivial⟩;exact stop_fresh _ _ _ _)|refine Yj ?_|refine Y7 ?_|refine Y4 ?_|refine Y11 ?_|refine Y0 ?_|refine Y1e ?_|refine Y1 ?_)
 refine W.loopP (X:=Unit) (fun π y=>[(0,.pointer (some ⟨π 0,0,none⟩)),(8,.slice none 0 0),(28,.int .i64 (0:Nat)),(29,.int .i64 0)]) (fun _=>B) (fun π _=>lkL pb (stopS (leakS s ⟨3,at_,0⟩) 40) π) (fun π' y=>EqUp π' π 5) (fun y=>0) [0,1,2,3,4,6] () ⟨rfl,rfl,rfl,rfl,rfl,trivial⟩ (by (refine FitL.mk ?_ ?_ ?_ ?_<;>(repeat' (first|exact trivial|exact rfl|(refine AllB.opt rfl rfl ?_)|apply And.intro));done)) ?_
 intro π' _ hE
 repeat (first|refine Y2 ?_|refine Y0 ?_|refine Y4b ?_|refine Y1 ?_|refine Y6 ?_|refine Yl ?_)
 exact ⟨[],.nil,AtO.mk [0,1,2,3,4,5] rfl rfl rfl hE (by (repeat' (first|exact trivial|exact rfl|apply And.intro));done) rfl⟩
end Go.Proofs.YtjhloakacicdiaaDoor
