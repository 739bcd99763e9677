/-
  What the functions that the law reaches compute,told by plain data;it holds of programs that pass the check of right form and are light.
-/
import Derived.Test.YtjhloakacicdiaaDoorR10
import Derived.Test.YtjhloakacicdiaaDoorR12
import Derived.Test.YtjhloakacicdiaaDoorR9
import Derived.Test.YtjhloakacicdiaaDoorS2
set_option linter.unusedVariables false
set_option linter.unusedSimpArgs false
namespace Go.Proofs.YtjhloakacicdiaaDoor
open Go.AH
attribute [local irreducible] W RS
instance:TyP Tryd.prog 74 [.int .i64,.int .i64,.int .i64]:=⟨by kernel_rfl⟩
deriving instance DecidableEq for LeakS
def leakR (cs:List Value) (x:LeakS):Prop:=cs=leakW x
def frL (pb fb fo:Nat) (s:RunS) (regs at_:List Int) (π:Nat→Nat):List (Nat × Option Blk):=[(0,some ⟨⟨runC pb s (π 1) (π 2) (π 3) (π 4)⟩,105⟩),(1,rowBk intW 2 s.out),(2,rowBk leakW 74 s.leaks),(3,some ⟨⟨bytesC s.data⟩,5⟩),(4,some ⟨⟨bytesC s.stack⟩,5⟩),(5,some ⟨⟨[.pointer (some ⟨fb,fo,none⟩),.slice (some ⟨π 6,0,none⟩) regs.length regs.length,rowVl 1 (π 7) at_]⟩,135⟩),(6,some ⟨⟨intsC regs⟩,2⟩),(7,rowBk intW 2 at_)]
theorem fr_par {n K:Nat} {pb fb fo:Nat} (s:RunS) (regs at_:List Int) (hp:pb < n) (hf:fb < n) (hK:8≤K):ParL n K (frL pb fb fo s regs at_) 8:=by
 refine ⟨ParB_row (fun a v hv=>?_) at_,ParB_free fun v hv=>?_,⟨fun τ π hτ=>?_,fun π N b hN hpi hb u hu=>?_⟩,run_par s hp (by omega)⟩
 ·simp only [intW,List.mem_cons,List.not_mem_nil,or_false] at hv
  subst hv;simp
 ·obtain ⟨x,_,rfl⟩:=List.mem_map.1 hv;simp
 ·show some _=some _
  congr 1
  unfold subB
  congr 1
  apply Array.ext'
  simp [sub_row,hτ fb hf]
 ·have hb:some _=some b:=hb
  injection hb with hb
  subst hb
  have h1:=hpi 6 (by omega)
  have h2:=hpi 7 (by omega)
  have hu:u∈[Value.pointer (some ⟨fb,fo,none⟩),.slice (some ⟨π 6,0,none⟩) regs.length regs.length,rowVl 1 (π 7) at_]:=by simpa using hu
  simp only [List.mem_cons,List.not_mem_nil,or_false] at hu
  rcases hu with rfl|rfl|rfl
  all_goals first|exact bnd_row (by assumption)|(simp;omega)
theorem step_fresh (pb:Nat) (s:RunS) (π:Nat→Nat):FreshL (runL pb s π) (runL pb (stepS s) π) 5:=by
 have h1:(stepS s).out=s.out:=by unfold stepS;split<;>(try split)<;>rfl
 have h2:(stepS s).leaks=s.leaks:=by unfold stepS;split<;>(try split)<;>rfl
 refine ⟨.inr ⟨_,rfl⟩,.inr ⟨_,rfl⟩,?_,?_,.inr ⟨_,rfl⟩,trivial⟩
 ·show rowBk leakW 74 (stepS s).leaks=none∨∃ b,rowBk leakW 74 s.leaks=some b
  rw [h2];exact row_fresh _ _ _
 ·show rowBk intW 2 (stepS s).out=none∨∃ b,rowBk intW 2 s.out=some b
  rw [h1];exact row_fresh _ _ _
theorem takeV_sub {off w j n:Nat} {cs vs:List Value} (h:takeV off w cs=vs) (hj:j+n≤w):takeV (off+j) n cs=(vs.drop j).take n:=by
 subst h
 rw [takeV_eq,takeV_eq,List.drop_take,List.drop_drop,List.take_take,Nat.min_eq_left (by omega)]
def setReg (regs:List Int) (d v:Int):List Int:=if d ≥ 0 then regs.set d.toNat v else regs
theorem fr_set {p:Option Addr} {a:Option Addr} {z:Value} {n m:Nat} (h:n=m):(some ⟨⟨[.pointer p,.slice a n n,z]⟩,135⟩:Option Blk)=some ⟨⟨[.pointer p,.slice a m m,z]⟩,135⟩:=by rw [h]
theorem setL_ints (d:List Int) (k:Nat) (b:Int):setL (intsC d) (0+k * 1) [.int .i64 b]=intsC (d.set k b):=by
 rw [Nat.zero_add,Nat.mul_one,setL_cons,setL_nil];unfold intsC;rw [List.map_set]
set_option maxHeartbeats 2000000 in
set_option maxRecDepth 100000 in
theorem insA_te (B:Hp) (pb fb fo:Nat) (hpb:pb < B.n) (hfb:fb < B.n) (s:RunS) (hst:0≤s.steps∧s.steps≤1000000000) (regs at_:List Int) (hrl:regs.length≤1000000000) (x:InsS) (xb xo:Nat) (xcs:List Value) (xe:TypeId) (A:Option Addr) (c:Nat) (hX:B.m xb=some ⟨⟨xcs⟩,xe⟩) (hXn:xb < B.n) (hXl:xo+12≤xcs.length) (hXv:takeV xo 12 xcs=insC x A c) (hop:x.op=1∨x.op=2) (hdst:x.dst < regs.length) :
 TE Tryd.prog 92 B 8 [0,3,4,5,6] (fun π=>[.pointer (some ⟨π 0,0,none⟩),.pointer (some ⟨π 5,0,none⟩),.pointer (some ⟨xb,xo,none⟩)]) (frL pb fb fo s regs at_) (.bool ((stepS s).fin == 0)) (frL pb fb fo (stepS s) (if (stepS s).fin=0 then setReg regs x.dst (argS regs x.a) else regs) at_):=by
 refine TE.intro (fn:=Tryd.f92) (c:=(Tryd.f92.body.getD .skip)) Tryd.func92 (by kernel_rfl) Tryd.ntmps92 (fun π=>by kernel_rfl) (fun π=>⟨⟨_,rfl⟩,⟨_,rfl⟩,⟨_,rfl⟩,⟨_,rfl⟩,⟨_,rfl⟩,trivial⟩) (fr_par _ _ _ hpb hfb (by omega)) (by simp) fun π=>?_
 conv=>arg 2;whnf
 repeat' (first|refine Yo ?_|refine Y1b ?_|refine Yy ?_|refine Y2p ?_|((with_reducible apply RS.load1B);(iterate 3 exact rfl);exact hX;exact hXn;(first|exact take_nth (j:=0) hXv rfl|exact take_nth (j:=1) hXv rfl|exact take_nth (j:=4) hXv rfl|exact take_nth (j:=7) hXv rfl|exact take_nth (j:=10) hXv rfl))|refine Yq ?_|refine Yc ?_|refine Yp ?_|refine Ys ?_|refine Yk ?_|refine Yb ?_|refine Y3 ?_|refine Ym ?_|refine Y7 ?_|refine Yn ?_|refine Y0 ?_|refine Y12 ?_|refine Y1 ?_|refine Y5 ?_|((refine YD ?_ ?_)<;>intro _)|((refine YG ?_ ?_)<;>intro _)|((refine YC ?_ ?_)<;>intro _)|((refine YN ?_ ?_)<;>intro _))
 ·have hf:¬ (stepS s).fin=0:=by simpa using ‹(!(stepS s).fin == 0)=true›
  rw [if_neg hf,show ((stepS s).fin == 0)=false by simpa using hf]
  exact endsK_ret _ (.cons (.tmp rfl) .nil) (by (refine AtE.mk [0,1,2,3,4,5,6,7] rfl rfl rfl ?_ ?_ rfl<;>(repeat' (first|exact trivial|exact rfl|apply And.intro));done))
 all_goals
  have hf:(stepS s).fin=0:=by simpa using ‹(!(stepS s).fin == 0)=false›
  rw [if_pos hf]
  unfold setReg
  first
   | rw [if_pos ‹x.dst ≥ 0›];exact endsK_ret _ (.cons (.tmp rfl) .nil) (by (refine AtE.mk [0,1,2,3,4,5,6,7] rfl rfl rfl ?_ ?_ rfl<;>(repeat' (first|exact trivial|exact rfl|exact fr_set List.length_set|apply And.intro));done))
   | rw [if_neg ‹¬ x.dst ≥ 0›];exact endsK_ret _ (.cons (.tmp rfl) .nil) (by (refine AtE.mk [0,1,2,3,4,5,6,7] rfl rfl rfl ?_ ?_ rfl<;>(repeat' (first|exact trivial|exact rfl|apply And.intro));done))
set_option maxHeartbeats 2000000 in
set_option maxRecDepth 100000 in
theorem insB_te (B:Hp) (pb fb fo:Nat) (hpb:pb < B.n) (hfb:fb < B.n) (s:RunS) (hst:0≤s.steps∧s.steps≤1000000000) (regs at_:List Int) (hrl:regs.length≤1000000000) (x:InsS) (xb xo:Nat) (xcs:List Value) (xe:TypeId) (A:Option Addr) (c:Nat) (hX:B.m xb=some ⟨⟨xcs⟩,xe⟩) (hXn:xb < B.n) (hXl:xo+12≤xcs.length) (hXv:takeV xo 12 xcs=insC x A c) (hop:x.op=22) (hdst:x.dst < regs.length) :
 TE Tryd.prog 92 B 8 [0,3,4,5,6] (fun π=>[.pointer (some ⟨π 0,0,none⟩),.pointer (some ⟨π 5,0,none⟩),.pointer (some ⟨xb,xo,none⟩)]) (frL pb fb fo s regs at_) (.bool ((stepS s).fin == 0)) (frL pb fb fo (stepS s) (if (stepS s).fin=0 then setReg regs x.dst (widenS (argS regs x.a) x.size x.signed) else regs) at_):=by
 have htw:twoS x.op=false:=by rw [hop];rfl
 refine TE.intro (fn:=Tryd.f92) (c:=(Tryd.f92.body.getD .skip)) Tryd.func92 (by kernel_rfl) Tryd.ntmps92 (fun π=>by kernel_rfl) (fun π=>⟨⟨_,rfl⟩,⟨_,rfl⟩,⟨_,rfl⟩,⟨_,rfl⟩,⟨_,rfl⟩,trivial⟩) (fr_par _ _ _ hpb hfb (by omega)) (by simp) fun π=>?_
 conv=>arg 2;whnf
 repeat' (first|refine Yo ?_|refine Yz ?_|refine Y2o ?_|refine Y1b ?_|refine Yy ?_|refine Y2p ?_|refine Yg ?_|refine Yq ?_|refine Yc ?_|refine Yp ?_|refine Ys ?_|refine Yb ?_|refine Y3 ?_|refine Y2 ?_|refine Ym ?_|refine Y7 ?_|refine Y0 ?_|refine Y12 ?_|refine Y1 ?_|refine Y5 ?_|refine Y6 ?_|((refine YD ?_ ?_)<;>intro _)|((refine YG ?_ ?_)<;>intro _)|((refine YC ?_ ?_)<;>intro _)|((refine YN ?_ ?_)<;>intro _))
 ·have hf:¬ (stepS s).fin=0:=by simpa using ‹(!(stepS s).fin == 0)=true›
  rw [if_neg hf,show ((stepS s).fin == 0)=false by simpa using hf]
  exact endsK_ret _ (.cons (.tmp rfl) .nil) (by (refine AtE.mk [0,1,2,3,4,5,6,7] rfl rfl rfl ?_ ?_ rfl<;>(repeat' (first|exact trivial|exact rfl|apply And.intro));done))
 all_goals
  have hf:(stepS s).fin=0:=by simpa using ‹(!(stepS s).fin == 0)=false›
  rw [if_pos hf]
  unfold setReg
  first
   | rw [if_pos ‹x.dst ≥ 0›];exact endsK_ret _ (.cons (.tmp rfl) .nil) (by (refine AtE.mk [0,1,2,3,4,5,6,7] rfl rfl rfl ?_ ?_ rfl<;>(repeat' (first|exact trivial|exact rfl|exact fr_set List.length_set|apply And.intro));done))
   | rw [if_neg ‹¬ x.dst ≥ 0›];exact endsK_ret _ (.cons (.tmp rfl) .nil) (by (refine AtE.mk [0,1,2,3,4,5,6,7] rfl rfl rfl ?_ ?_ rfl<;>(repeat' (first|exact trivial|exact rfl|apply And.intro));done))
set_option maxHeartbeats 2000000 in
set_option maxRecDepth 100000 in
theorem insC_te (B:Hp) (pb fb fo:Nat) (hpb:pb < B.n) (hfb:fb < B.n) (s:RunS) (hst:0≤s.steps∧s.steps≤1000000000) (regs at_:List Int) (hrl:regs.length≤1000000000) (x:InsS) (xb xo:Nat) (xcs:List Value) (xe:TypeId) (A:Option Addr) (c:Nat) (hX:B.m xb=some ⟨⟨xcs⟩,xe⟩) (hXn:xb < B.n) (hXl:xo+12≤xcs.length) (hXv:takeV xo 12 xcs=insC x A c) (hop:x.op=25) (hr:0≤x.ref∧x.ref≤1000000) (hdst:x.dst < regs.length) :
 TE Tryd.prog 92 B 8 [0,3,4,5,6] (fun π=>[.pointer (some ⟨π 0,0,none⟩),.pointer (some ⟨π 5,0,none⟩),.pointer (some ⟨xb,xo,none⟩)]) (frL pb fb fo s regs at_) (.bool ((stepS s).fin == 0)) (frL pb fb fo (stepS s) (if (stepS s).fin=0 then setReg regs x.dst (4194304+16 * x.ref) else regs) at_):=by
 have htw:twoS x.op=false:=by rw [hop];rfl
 refine TE.intro (fn:=Tryd.f92) (c:=(Tryd.f92.body.getD .skip)) Tryd.func92 (by kernel_rfl) Tryd.ntmps92 (fun π=>by kernel_rfl) (fun π=>⟨⟨_,rfl⟩,⟨_,rfl⟩,⟨_,rfl⟩,⟨_,rfl⟩,⟨_,rfl⟩,trivial⟩) (fr_par _ _ _ hpb hfb (by omega)) (by simp) fun π=>?_
 conv=>arg 2;whnf
 repeat' (first|refine Yo ?_|refine Yz ?_|refine Y1b ?_|refine Yy ?_|refine Y2p ?_|refine Yg ?_|refine Yq ?_|refine Yc ?_|refine Yp ?_|refine Ys ?_|refine Yb ?_|refine Y3 ?_|refine Y2 ?_|refine Ym ?_|refine Yu ?_|refine Y7 ?_|refine Y0 ?_|refine Y12 ?_|refine Y1 ?_|refine Y5 ?_|refine Y6 ?_|((refine YD ?_ ?_)<;>intro _)|((refine YG ?_ ?_)<;>intro _)|((refine YC ?_ ?_)<;>intro _)|((refine YN ?_ ?_)<;>intro _))
 ·have hf:¬ (stepS s).fin=0:=by simpa using ‹(!(stepS s).fin == 0)=true›
  rw [if_neg hf,show ((stepS s).fin == 0)=false by simpa using hf]
  exact endsK_ret _ (.cons (.tmp rfl) .nil) (by (refine AtE.mk [0,1,2,3,4,5,6,7] rfl rfl rfl ?_ ?_ rfl<;>(repeat' (first|exact trivial|exact rfl|apply And.intro));done))
 all_goals
  have hf:(stepS s).fin=0:=by simpa using ‹(!(stepS s).fin == 0)=false›
  rw [if_pos hf]
  unfold setReg
  first
   | rw [if_pos ‹x.dst ≥ 0›];exact endsK_ret _ (.cons (.tmp rfl) .nil) (by (refine AtE.mk [0,1,2,3,4,5,6,7] rfl rfl rfl ?_ ?_ rfl<;>(repeat' (first|exact trivial|exact rfl|exact fr_set List.length_set|apply And.intro));done))
   | rw [if_neg ‹¬ x.dst ≥ 0›];exact endsK_ret _ (.cons (.tmp rfl) .nil) (by (refine AtE.mk [0,1,2,3,4,5,6,7] rfl rfl rfl ?_ ?_ rfl<;>(repeat' (first|exact trivial|exact rfl|apply And.intro));done))
set_option maxHeartbeats 4000000 in
set_option maxRecDepth 100000 in
theorem insD_te (B:Hp) (pb fb fo:Nat) (hpb:pb < B.n) (hfb:fb < B.n) (s:RunS) (hst:0≤s.steps∧s.steps≤1000000000) (regs at_:List Int) (hrl:regs.length≤1000000000) (x:InsS) (xb xo:Nat) (xcs:List Value) (xe:TypeId) (A:Option Addr) (c:Nat) (hX:B.m xb=some ⟨⟨xcs⟩,xe⟩) (hXn:xb < B.n) (hXl:xo+12≤xcs.length) (hXv:takeV xo 12 xcs=insC x A c) (hop:twoS x.op=true) (hb0:-9223372036854775808≤argS regs x.b) (hb1:argS regs x.b≤9223372036854775807) (hq:(reckonS x.op (argS regs x.a) (argS regs x.b)).2=true) (hdst:x.dst < regs.length) :
 TE Tryd.prog 92 B 8 [0,3,4,5,6] (fun π=>[.pointer (some ⟨π 0,0,none⟩),.pointer (some ⟨π 5,0,none⟩),.pointer (some ⟨xb,xo,none⟩)]) (frL pb fb fo s regs at_) (.bool (((stepS s):RunS).fin == 0)) (frL pb fb fo (stepS s) (if (stepS s).fin=0 then setReg regs x.dst (reckonS x.op (argS regs x.a) (argS regs x.b)).1 else regs) at_):=by
 have htw:twoS x.op=true:=hop
 have hop':3≤x.op∧x.op≤21:=by unfold twoS at hop;simpa using hop
 refine TE.intro (fn:=Tryd.f92) (c:=(Tryd.f92.body.getD .skip)) Tryd.func92 (by kernel_rfl) Tryd.ntmps92 (fun π=>by kernel_rfl) (fun π=>⟨⟨_,rfl⟩,⟨_,rfl⟩,⟨_,rfl⟩,⟨_,rfl⟩,⟨_,rfl⟩,trivial⟩) (fr_par _ _ _ hpb hfb (by omega)) (by simp) fun π=>?_
 conv=>arg 2;whnf
 repeat' (first|refine Yo ?_|refine Y3j ?_|refine Y1b ?_|refine Yy ?_|refine Yw ?_|refine Yg ?_|refine Yq ?_|refine Yc ?_|refine Yp ?_|((with_reducible apply RS.callR true []);(iterate 3 exact rfl);exact fun H hH=>(show TF _ _ _ H (.tuple ⟨[.int .i64 (reckonS x.op (argS regs x.a) (argS regs x.b)).1,.bool true]⟩) H by have hq0:=reckon_tf x.op (argS regs x.a) (argS regs x.b) hb0 hb1 H;unfold pairV at hq0;rw [hq] at hq0;exact hq0);exact Nm_free (by simp))|refine Ys ?_|refine Yb ?_|refine Y2 ?_|refine Ym ?_|refine Y46 ?_|refine Y7 ?_|refine Y0 ?_|refine Y12 ?_|refine Y1 ?_|refine Y5 ?_|refine Y6 ?_|((refine YD ?_ ?_)<;>intro _)|((refine YG ?_ ?_)<;>intro _)|((refine YC ?_ ?_)<;>intro _)|((refine YN ?_ ?_)<;>intro _))
 ·have hf:¬ (stepS s).fin=0:=by simpa using ‹(!(stepS s).fin == 0)=true›
  simp only [if_neg hf]
  rw [show ((stepS s).fin == 0)=false by simpa using hf]
  exact endsK_ret _ (.cons (.tmp rfl) .nil) (by (refine AtE.mk [0,1,2,3,4,5,6,7] rfl rfl rfl ?_ ?_ rfl<;>(repeat' (first|exact trivial|exact rfl|exact fr_set List.length_set|apply And.intro));done))
 all_goals
  have hf:(stepS s).fin=0:=by simpa using ‹(!(stepS s).fin == 0)=false›
  simp only [if_pos hf]
  unfold setReg
  first
   | rw [if_pos ‹x.dst ≥ 0›];exact endsK_ret _ (.cons (.tmp rfl) .nil) (by (refine AtE.mk [0,1,2,3,4,5,6,7] rfl rfl rfl ?_ ?_ rfl<;>(repeat' (first|exact trivial|exact rfl|exact fr_set List.length_set|apply And.intro));done))
   | rw [if_neg ‹¬ x.dst ≥ 0›];exact endsK_ret _ (.cons (.tmp rfl) .nil) (by (refine AtE.mk [0,1,2,3,4,5,6,7] rfl rfl rfl ?_ ?_ rfl<;>(repeat' (first|exact trivial|exact rfl|exact fr_set List.length_set|apply And.intro));done))
set_option maxHeartbeats 4000000 in
set_option maxRecDepth 100000 in
theorem insE_te (B:Hp) (pb fb fo:Nat) (hpb:pb < B.n) (hfb:fb < B.n) (s:RunS) (hst:0≤s.steps∧s.steps≤1000000000) (regs at_:List Int) (hrl:regs.length≤1000000000) (x:InsS) (xb xo:Nat) (xcs:List Value) (xe:TypeId) (A:Option Addr) (c:Nat) (hX:B.m xb=some ⟨⟨xcs⟩,xe⟩) (hXn:xb < B.n) (hXl:xo+12≤xcs.length) (hXv:takeV xo 12 xcs=insC x A c) (hop:twoS x.op=true) (hb0:-9223372036854775808≤argS regs x.b) (hb1:argS regs x.b≤9223372036854775807) (hq:(reckonS x.op (argS regs x.a) (argS regs x.b)).2=false) (hdst:x.dst < regs.length) :
 TE Tryd.prog 92 B 8 [0,3,4,5,6] (fun π=>[.pointer (some ⟨π 0,0,none⟩),.pointer (some ⟨π 5,0,none⟩),.pointer (some ⟨xb,xo,none⟩)]) (frL pb fb fo s regs at_) (.bool (((if (stepS s).fin=0 then stopS (stepS s) 41 else stepS s):RunS).fin == 0)) (frL pb fb fo (if (stepS s).fin=0 then stopS (stepS s) 41 else stepS s) (if (stepS s).fin=0 then setReg regs x.dst (reckonS x.op (argS regs x.a) (argS regs x.b)).1 else regs) at_):=by
 have htw:twoS x.op=true:=hop
 have hop':3≤x.op∧x.op≤21:=by unfold twoS at hop;simpa using hop
 refine TE.intro (fn:=Tryd.f92) (c:=(Tryd.f92.body.getD .skip)) Tryd.func92 (by kernel_rfl) Tryd.ntmps92 (fun π=>by kernel_rfl) (fun π=>⟨⟨_,rfl⟩,⟨_,rfl⟩,⟨_,rfl⟩,⟨_,rfl⟩,⟨_,rfl⟩,trivial⟩) (fr_par _ _ _ hpb hfb (by omega)) (by simp) fun π=>?_
 conv=>arg 2;whnf
 repeat' (first|refine Yo ?_|refine Y3j ?_|refine Y1b ?_|refine Yy ?_|refine Yw ?_|refine Yg ?_|refine Yq ?_|refine Yc ?_|refine Yp ?_|((with_reducible apply RS.callR true []);(iterate 3 exact rfl);exact fun H hH=>(show TF _ _ _ H (.tuple ⟨[.int .i64 (reckonS x.op (argS regs x.a) (argS regs x.b)).1,.bool false]⟩) H by have hq0:=reckon_tf x.op (argS regs x.a) (argS regs x.b) hb0 hb1 H;unfold pairV at hq0;rw [hq] at hq0;exact hq0);exact Nm_free (by simp))|((with_reducible apply (RS.callO (vs:=[]) [0,1,2,3,4] 0));(iterate 2 exact rfl);exact stop_to _ pb hpb (stepS s) 41;(iterate 2 exact rfl);exact ⟨rfl,rfl,rfl,rfl,rfl,trivial⟩;exact stop_fresh _ _ _ _)|refine Ys ?_|refine Yb ?_|refine Y2 ?_|refine Ym ?_|refine Y46 ?_|refine Y7 ?_|refine Y0 ?_|refine Y12 ?_|refine Y1 ?_|refine Y5 ?_|refine Y6 ?_|((refine YD ?_ ?_)<;>intro _)|((refine YG ?_ ?_)<;>intro _)|((refine YC ?_ ?_)<;>intro _)|((refine YN ?_ ?_)<;>intro _))
 ·have hf:¬ (stepS s).fin=0:=by simpa using ‹(!(stepS s).fin == 0)=true›
  simp only [if_neg hf]
  rw [show ((stepS s).fin == 0)=false by simpa using hf]
  exact endsK_ret _ (.cons (.tmp rfl) .nil) (by (refine AtE.mk [0,1,2,3,4,5,6,7] rfl rfl rfl ?_ ?_ rfl<;>(repeat' (first|exact trivial|exact rfl|exact fr_set List.length_set|apply And.intro));done))
 all_goals
  have hf:(stepS s).fin=0:=by simpa using ‹(!(stepS s).fin == 0)=false›
  simp only [if_pos hf]
  unfold setReg
  first
   | rw [if_pos ‹x.dst ≥ 0›];exact endsK_ret _ (.cons (.tmp rfl) .nil) (by (refine AtE.mk [0,1,2,3,4,5,6,7] rfl rfl rfl ?_ ?_ rfl<;>(repeat' (first|exact trivial|exact rfl|exact fr_set List.length_set|apply And.intro));done))
   | rw [if_neg ‹¬ x.dst ≥ 0›];exact endsK_ret _ (.cons (.tmp rfl) .nil) (by (refine AtE.mk [0,1,2,3,4,5,6,7] rfl rfl rfl ?_ ?_ rfl<;>(repeat' (first|exact trivial|exact rfl|exact fr_set List.length_set|apply And.intro));done))
set_option maxHeartbeats 4000000 in
set_option maxRecDepth 100000 in
theorem insG_te (B:Hp) (pb fb fo:Nat) (hpb:pb < B.n) (hfb:fb < B.n) (s:RunS) (hst:0≤s.steps∧s.steps≤1000000000) (regs at_:List Int) (hrl:regs.length≤1000000000) (x:InsS) (xb xo:Nat) (xcs:List Value) (xe:TypeId) (A:Option Addr) (c:Nat) (hX:B.m xb=some ⟨⟨xcs⟩,xe⟩) (hXn:xb < B.n) (hXl:xo+12≤xcs.length) (hXv:takeV xo 12 xcs=insC x A c) (hop:x.op=23) (p:ProgS) (pe:TypeId) (P1:Option Addr) (d1 gb go:Nat) (d2:Nat) (hP:B.m pb=some ⟨⟨progC p P1 d1 (some ⟨gb,go,none⟩) d2⟩,pe⟩) (g:GlobS) (hr0:0≤x.ref) (hil:x.ref < p.globals.length) (gcs:List Value) (ge:TypeId) (GA:Option Addr) (gc:Nat) (hG:B.m gb=some ⟨⟨gcs⟩,ge⟩) (hGn:gb < B.n) (hGl:go+x.ref.toNat * 4+4≤gcs.length) (hGv:takeV (go+x.ref.toNat * 4) 4 gcs=globC g GA gc) (hdst:x.dst < regs.length) :
 TE Tryd.prog 92 B 8 [0,3,4,5,6] (fun π=>[.pointer (some ⟨π 0,0,none⟩),.pointer (some ⟨π 5,0,none⟩),.pointer (some ⟨xb,xo,none⟩)]) (frL pb fb fo s regs at_) (.bool (((stepS s):RunS).fin == 0)) (frL pb fb fo (stepS s) (if (stepS s).fin=0 then setReg regs x.dst (i64 (i64 (65536+g.place)+x.off)) else regs) at_):=by
 have htw:twoS x.op=false:=by rw [hop];rfl
 have hPn:=hpb
 refine TE.intro (fn:=Tryd.f92) (c:=(Tryd.f92.body.getD .skip)) Tryd.func92 (by kernel_rfl) Tryd.ntmps92 (fun π=>by kernel_rfl) (fun π=>⟨⟨_,rfl⟩,⟨_,rfl⟩,⟨_,rfl⟩,⟨_,rfl⟩,⟨_,rfl⟩,trivial⟩) (fr_par _ _ _ hpb hfb (by omega)) (by simp) fun π=>?_
 conv=>arg 2;whnf
 repeat' (first|refine Yo ?_|refine Yz ?_|refine Y1b ?_|refine Yy ?_|refine Yw ?_|refine Yg ?_|refine Yq ?_|refine Yc ?_|refine Yp ?_|((with_reducible apply RS.load1B);(iterate 3 exact rfl);first|exact hP;exact hPn;exact rfl|exact hG;exact hGn;exact take_nth (j:=1) hGv rfl)|refine Ys ?_|refine Yb ?_|refine Y3 ?_|refine Y2 ?_|refine Ym ?_|refine Yt ?_|refine Y7 ?_|refine Y0 ?_|refine Y12 ?_|refine Y1 ?_|refine Y5 ?_|refine Y6 ?_|((refine YD ?_ ?_)<;>intro _)|((refine YG ?_ ?_)<;>intro _)|((refine YC ?_ ?_)<;>intro _)|((refine YN ?_ ?_)<;>intro _))
 ·have hf:¬ (stepS s).fin=0:=by simpa using ‹(!(stepS s).fin == 0)=true›
  simp only [if_neg hf]
  rw [show ((stepS s).fin == 0)=false by simpa using hf]
  exact endsK_ret _ (.cons (.tmp rfl) .nil) (by (refine AtE.mk [0,1,2,3,4,5,6,7] rfl rfl rfl ?_ ?_ rfl<;>(repeat' (first|exact trivial|exact rfl|exact fr_set List.length_set|apply And.intro));done))
 all_goals
  have hf:(stepS s).fin=0:=by simpa using ‹(!(stepS s).fin == 0)=false›
  simp only [if_pos hf]
  unfold setReg
  first
   | rw [if_pos ‹x.dst ≥ 0›];exact endsK_ret _ (.cons (.tmp rfl) .nil) (by (refine AtE.mk [0,1,2,3,4,5,6,7] rfl rfl rfl ?_ ?_ rfl<;>(repeat' (first|exact trivial|exact rfl|exact fr_set List.length_set|apply And.intro));done))
   | rw [if_neg ‹¬ x.dst ≥ 0›];exact endsK_ret _ (.cons (.tmp rfl) .nil) (by (refine AtE.mk [0,1,2,3,4,5,6,7] rfl rfl rfl ?_ ?_ rfl<;>(repeat' (first|exact trivial|exact rfl|exact fr_set List.length_set|apply And.intro));done))
set_option maxHeartbeats 4000000 in
set_option maxRecDepth 100000 in
theorem insH_te (B:Hp) (pb fb fo:Nat) (hpb:pb < B.n) (hfb:fb < B.n) (s:RunS) (hst:0≤s.steps∧s.steps≤1000000000) (regs at_:List Int) (hrl:regs.length≤1000000000) (x:InsS) (xb xo:Nat) (xcs:List Value) (xe:TypeId) (A:Option Addr) (c:Nat) (hX:B.m xb=some ⟨⟨xcs⟩,xe⟩) (hXn:xb < B.n) (hXl:xo+12≤xcs.length) (hXv:takeV xo 12 xcs=insC x A c) (hop:x.op=24) (a0:Int) (al:List Int) (hae:at_=a0::al) (hr0:0≤x.ref) (hil:x.ref < al.length+1) (v:Int) (hat:(rowC intW (a0::al))[0+x.ref.toNat * 1]?=some (.int .i64 v)) (hdst:x.dst < regs.length) :
 TE Tryd.prog 92 B 8 [0,3,4,5,6] (fun π=>[.pointer (some ⟨π 0,0,none⟩),.pointer (some ⟨π 5,0,none⟩),.pointer (some ⟨xb,xo,none⟩)]) (frL pb fb fo s regs at_) (.bool (((stepS s):RunS).fin == 0)) (frL pb fb fo (stepS s) (if (stepS s).fin=0 then setReg regs x.dst (i64 (v+x.off)) else regs) at_):=by
 have htw:twoS x.op=false:=by rw [hop];rfl
 subst hae
 refine TE.intro (fn:=Tryd.f92) (c:=(Tryd.f92.body.getD .skip)) Tryd.func92 (by kernel_rfl) Tryd.ntmps92 (fun π=>by kernel_rfl) (fun π=>⟨⟨_,rfl⟩,⟨_,rfl⟩,⟨_,rfl⟩,⟨_,rfl⟩,⟨_,rfl⟩,trivial⟩) (fr_par _ _ _ hpb hfb (by omega)) (by simp) fun π=>?_
 conv=>arg 2;whnf
 repeat' (first|refine Yo ?_|refine Yz ?_|refine Y1b ?_|refine Yy ?_|refine Yw ?_|refine Yg ?_|refine Yq ?_|refine Yc ?_|refine Yp ?_|((with_reducible apply RS.load1At);(iterate 5 exact rfl);exact hat)|refine Ys ?_|refine Yb ?_|refine Y3 ?_|refine Y2 ?_|refine Ym ?_|refine Yt ?_|refine Y7 ?_|refine Y0 ?_|refine Y12 ?_|refine Y1 ?_|refine Y5 ?_|refine Y6 ?_|((refine YD ?_ ?_)<;>intro _)|((refine YG ?_ ?_)<;>intro _)|((refine YC ?_ ?_)<;>intro _)|((refine YN ?_ ?_)<;>intro _))
 ·have hf:¬ (stepS s).fin=0:=by simpa using ‹(!(stepS s).fin == 0)=true›
  simp only [if_neg hf]
  rw [show ((stepS s).fin == 0)=false by simpa using hf]
  exact endsK_ret _ (.cons (.tmp rfl) .nil) (by (refine AtE.mk [0,1,2,3,4,5,6,7] rfl rfl rfl ?_ ?_ rfl<;>(repeat' (first|exact trivial|exact rfl|exact fr_set List.length_set|apply And.intro));done))
 all_goals
  have hf:(stepS s).fin=0:=by simpa using ‹(!(stepS s).fin == 0)=false›
  simp only [if_pos hf]
  unfold setReg
  first
   | rw [if_pos ‹x.dst ≥ 0›];exact endsK_ret _ (.cons (.tmp rfl) .nil) (by (refine AtE.mk [0,1,2,3,4,5,6,7] rfl rfl rfl ?_ ?_ rfl<;>(repeat' (first|exact trivial|exact rfl|exact fr_set List.length_set|apply And.intro));done))
   | rw [if_neg ‹¬ x.dst ≥ 0›];exact endsK_ret _ (.cons (.tmp rfl) .nil) (by (refine AtE.mk [0,1,2,3,4,5,6,7] rfl rfl rfl ?_ ?_ rfl<;>(repeat' (first|exact trivial|exact rfl|exact fr_set List.length_set|apply And.intro));done))
instance (s:RunS) (at_:Int) (n:Nat):Decidable (inData s at_ n):=by unfold inData;infer_instance
instance (s:RunS) (at_:Int) (n:Nat):Decidable (inStack s at_ n):=by unfold inStack;infer_instance
def loadS (s:RunS) (at_:Int) (n:Nat) (sg:Bool):Int × RunS :=
 if inData s at_ n then (widenS (loadV s.data (at_ - 65536).toNat n) n sg,leakS s ⟨2,at_,0⟩)
 else if inStack s at_ n then (widenS (loadV s.stack (at_ - (134217728 - (s.stack.length:Int))).toNat n) n sg,leakS s ⟨2,at_,0⟩)
 else (widenS 0 n sg,stopS (leakS s ⟨2,at_,0⟩) 40)
def storeS (s:RunS) (at_:Int) (n:Nat) (v:Int):RunS :=
 if inData s at_ n then { leakS s ⟨3,at_,0⟩ with data:=storeV s.data (at_ - 65536).toNat v n }
 else if inStack s at_ n then { leakS s ⟨3,at_,0⟩ with stack:=storeV s.stack (at_ - (134217728 - (s.stack.length:Int))).toNat v n }
 else stopS (leakS s ⟨3,at_,0⟩) 40
theorem stopS_out (s:RunS) (e:Int):(stopS s e).out=s.out:=by unfold stopS;split<;>rfl
theorem loadS_out (s:RunS) (at_:Int) (n:Nat) (sg:Bool):(loadS s at_ n sg).2.out=s.out:=by
 unfold loadS
 split
 ·rfl
 ·split
  ·rfl
  ·exact stopS_out _ _
theorem storeS_out (s:RunS) (at_:Int) (n:Nat) (v:Int):(storeS s at_ n v).out=s.out:=by
 unfold storeS
 split
 ·rfl
 ·split
  ·rfl
  ·exact stopS_out _ _
theorem lk_fresh (pb:Nat) (s s':RunS) (h:s'.out=s.out) (π:Nat→Nat):FreshL (runL pb s π) (lkL pb s' π) 5:=by
 refine ⟨.inr ⟨_,rfl⟩,.inr ⟨_,rfl⟩,.inl rfl,?_,.inr ⟨_,rfl⟩,trivial⟩
 show rowBk intW 2 s'.out=none∨∃ b,rowBk intW 2 s.out=some b
 rw [h];exact row_fresh _ _ _
theorem load_to (B:Hp) (pb:Nat) (hpb:pb < B.n) (s:RunS) (at_:Int) (hs:(leakS s ⟨2,at_,0⟩).ok) (hat:-9223372036854775808≤at_∧at_≤9223372036854775807) (n:Nat) (hn:1≤n∧n≤8) (z:Int) (hz:z=n) (sg:Bool):TO Tryd.prog 107 B 5 1 (fun π=>[.pointer (some ⟨π 0,0,none⟩),.int .i64 at_,.int .i64 z,.bool sg]) (runL pb s) (fun π=>.int .i64 (loadS s at_ n sg).1) (lkL pb (loadS s at_ n sg).2):=by
 subst hz
 unfold loadS
 split
 ·exact loadD_to B pb hpb s at_ hs n hn sg ‹_›
 ·split
  ·exact loadK_to B pb hpb s at_ hs n hn sg ‹_› ‹_›
  ·exact loadN_to B pb hpb s at_ hs hat n hn sg ‹_› ‹_›
theorem store_to (B:Hp) (pb:Nat) (hpb:pb < B.n) (s:RunS) (at_:Int) (hs:(leakS s ⟨3,at_,0⟩).ok) (hat:-9223372036854775808≤at_∧at_≤9223372036854775807) (n:Nat) (hn:1≤n∧n≤8) (z:Int) (hz:z=n) (v:Int):TO Tryd.prog 108 B 5 1 (fun π=>[.pointer (some ⟨π 0,0,none⟩),.int .i64 at_,.int .i64 z,.int .i64 v]) (runL pb s) (fun π=>.tuple #[]) (lkL pb (storeS s at_ n v)):=by
 subst hz
 unfold storeS
 split
 ·exact storeD_to B pb hpb s at_ hs n hn v ‹_›
 ·split
  ·exact storeK_to B pb hpb s at_ hs n hn v ‹_› ‹_›
  ·exact storeN_to B pb hpb s at_ hs hat n hn v ‹_› ‹_›
set_option maxHeartbeats 4000000 in
set_option maxRecDepth 100000 in
theorem insI_te (B:Hp) (pb fb fo:Nat) (hpb:pb < B.n) (hfb:fb < B.n) (s:RunS) (hst:0≤s.steps∧s.steps≤1000000000) (regs at_:List Int) (hrl:regs.length≤1000000000) (x:InsS) (xb xo:Nat) (xcs:List Value) (xe:TypeId) (A:Option Addr) (c:Nat) (hX:B.m xb=some ⟨⟨xcs⟩,xe⟩) (hXn:xb < B.n) (hXl:xo+12≤xcs.length) (hXv:takeV xo 12 xcs=insC x A c) (hop:x.op=26) (n:Nat) (hn:1≤n∧n≤8) (hz:x.size=(n:Int)) (hs:(leakS (stepS s) ⟨2,i64 (argS regs x.a+x.off),0⟩).ok) (hdst:x.dst < regs.length) :
 TE Tryd.prog 92 B 8 [0,3,4,5,6] (fun π=>[.pointer (some ⟨π 0,0,none⟩),.pointer (some ⟨π 5,0,none⟩),.pointer (some ⟨xb,xo,none⟩)]) (frL pb fb fo s regs at_) (.bool (((if (stepS s).fin=0 then (loadS (stepS s) (i64 (argS regs x.a+x.off)) n x.signed).2 else stepS s):RunS).fin == 0)) (frL pb fb fo (if (stepS s).fin=0 then (loadS (stepS s) (i64 (argS regs x.a+x.off)) n x.signed).2 else stepS s) (if (stepS s).fin=0 then setReg regs x.dst (loadS (stepS s) (i64 (argS regs x.a+x.off)) n x.signed).1 else regs) at_):=by
 have htw:twoS x.op=false:=by rw [hop];rfl
 refine TE.intro (fn:=Tryd.f92) (c:=(Tryd.f92.body.getD .skip)) Tryd.func92 (by kernel_rfl) Tryd.ntmps92 (fun π=>by kernel_rfl) (fun π=>⟨⟨_,rfl⟩,⟨_,rfl⟩,⟨_,rfl⟩,⟨_,rfl⟩,⟨_,rfl⟩,trivial⟩) (fr_par _ _ _ hpb hfb (by omega)) (by simp) fun π=>?_
 conv=>arg 2;whnf
 repeat' (first|refine Yo ?_|refine Yz ?_|refine Y1b ?_|refine Yy ?_|refine Yw ?_|refine Yg ?_|refine Yq ?_|refine Yc ?_|refine Yp ?_|((with_reducible apply (RS.callO (vs:=[]) [0,1,2,3,4] 1));(iterate 2 exact rfl);exact load_to B pb hpb (stepS s) (i64 (argS regs x.a+x.off)) hs (wrap64_in _) n hn x.size hz x.signed;(iterate 2 exact rfl);exact ⟨rfl,rfl,rfl,rfl,rfl,trivial⟩;exact lk_fresh _ _ _ (loadS_out _ _ _ _) _)|refine Ys ?_|refine Yb ?_|refine Y3 ?_|refine Y2 ?_|refine Ym ?_|refine Yt ?_|refine Y7 ?_|refine Y0 ?_|refine Y12 ?_|refine Y1 ?_|refine Y5 ?_|refine Y6 ?_|((refine YD ?_ ?_)<;>intro _)|((refine YG ?_ ?_)<;>intro _)|((refine YC ?_ ?_)<;>intro _)|((refine YN ?_ ?_)<;>intro _))
 ·have hf:¬ (stepS s).fin=0:=by simpa using ‹(!(stepS s).fin == 0)=true›
  simp only [if_neg hf]
  rw [show ((stepS s).fin == 0)=false by simpa using hf]
  exact endsK_ret _ (.cons (.tmp rfl) .nil) (by (refine AtE.mk [0,1,2,3,4,5,6,7] rfl rfl rfl ?_ ?_ rfl<;>(repeat' (first|exact trivial|exact rfl|exact fr_set List.length_set|apply And.intro));done))
 all_goals
  have hf:(stepS s).fin=0:=by simpa using ‹(!(stepS s).fin == 0)=false›
  simp only [if_pos hf]
  unfold setReg
  first
   | rw [if_pos ‹x.dst ≥ 0›];exact endsK_ret _ (.cons (.tmp rfl) .nil) (by (refine AtE.mk [0,1,8,3,4,5,6,7] rfl rfl rfl ?_ ?_ rfl<;>(repeat' (first|exact trivial|exact rfl|exact fr_set List.length_set|apply And.intro));done))
   | rw [if_neg ‹¬ x.dst ≥ 0›];exact endsK_ret _ (.cons (.tmp rfl) .nil) (by (refine AtE.mk [0,1,8,3,4,5,6,7] rfl rfl rfl ?_ ?_ rfl<;>(repeat' (first|exact trivial|exact rfl|exact fr_set List.length_set|apply And.intro));done))
set_option maxHeartbeats 4000000 in
set_option maxRecDepth 100000 in
theorem insJ_te (B:Hp) (pb fb fo:Nat) (hpb:pb < B.n) (hfb:fb < B.n) (s:RunS) (hst:0≤s.steps∧s.steps≤1000000000) (regs at_:List Int) (hrl:regs.length≤1000000000) (x:InsS) (xb xo:Nat) (xcs:List Value) (xe:TypeId) (A:Option Addr) (c:Nat) (hX:B.m xb=some ⟨⟨xcs⟩,xe⟩) (hXn:xb < B.n) (hXl:xo+12≤xcs.length) (hXv:takeV xo 12 xcs=insC x A c) (hop:x.op=27) (n:Nat) (hn:1≤n∧n≤8) (hz:x.size=(n:Int)) (hs:(leakS (stepS s) ⟨3,i64 (argS regs x.a+x.off),0⟩).ok) (hdst:x.dst=-1) :
 TE Tryd.prog 92 B 8 [0,3,4,5,6] (fun π=>[.pointer (some ⟨π 0,0,none⟩),.pointer (some ⟨π 5,0,none⟩),.pointer (some ⟨xb,xo,none⟩)]) (frL pb fb fo s regs at_) (.bool (((if (stepS s).fin=0 then storeS (stepS s) (i64 (argS regs x.a+x.off)) n (argS regs x.b) else stepS s):RunS).fin == 0)) (frL pb fb fo (if (stepS s).fin=0 then storeS (stepS s) (i64 (argS regs x.a+x.off)) n (argS regs x.b) else stepS s) (regs) at_):=by
 have htw:twoS x.op=false:=by rw [hop];rfl
 refine TE.intro (fn:=Tryd.f92) (c:=(Tryd.f92.body.getD .skip)) Tryd.func92 (by kernel_rfl) Tryd.ntmps92 (fun π=>by kernel_rfl) (fun π=>⟨⟨_,rfl⟩,⟨_,rfl⟩,⟨_,rfl⟩,⟨_,rfl⟩,⟨_,rfl⟩,trivial⟩) (fr_par _ _ _ hpb hfb (by omega)) (by simp) fun π=>?_
 conv=>arg 2;whnf
 repeat' (first|refine Yo ?_|refine Yz ?_|refine Yw ?_|refine Yg ?_|refine Yq ?_|refine Yc ?_|refine Yp ?_|((with_reducible apply (RS.callO (vs:=[]) [0,1,2,3,4] 1));(iterate 2 exact rfl);exact store_to B pb hpb (stepS s) (i64 (argS regs x.a+x.off)) hs (wrap64_in _) n hn x.size hz (argS regs x.b);(iterate 2 exact rfl);exact ⟨rfl,rfl,rfl,rfl,rfl,trivial⟩;exact lk_fresh _ _ _ (storeS_out _ _ _ _) _)|refine Ys ?_|refine Yb ?_|refine Y3 ?_|refine Y2 ?_|refine Yt ?_|refine Y0 ?_|refine Y12 ?_|refine Y1 ?_|refine Y5 ?_|refine Y6 ?_|((refine YD ?_ ?_)<;>intro _)|((refine YG ?_ ?_)<;>intro _)|((refine YC ?_ ?_)<;>intro _)|((refine YN ?_ ?_)<;>intro _))
 ·have hf:¬ (stepS s).fin=0:=by simpa using ‹(!(stepS s).fin == 0)=true›
  simp only [if_neg hf]
  rw [show ((stepS s).fin == 0)=false by simpa using hf]
  exact endsK_ret _ (.cons (.tmp rfl) .nil) (by (refine AtE.mk [0,1,2,3,4,5,6,7] rfl rfl rfl ?_ ?_ rfl<;>(repeat' (first|exact trivial|exact rfl|exact fr_set List.length_set|apply And.intro));done))
 all_goals
  have hf:(stepS s).fin=0:=by simpa using ‹(!(stepS s).fin == 0)=false›
  simp only [if_pos hf]
  exact endsK_ret _ (.cons (.tmp rfl) .nil) (by (refine AtE.mk [0,1,8,3,4,5,6,7] rfl rfl rfl ?_ ?_ rfl<;>(repeat' (first|exact trivial|exact rfl|exact fr_set List.length_set|apply And.intro));done))
set_option maxHeartbeats 4000000 in
set_option maxRecDepth 100000 in
theorem insK_te (B:Hp) (pb fb fo:Nat) (hpb:pb < B.n) (hfb:fb < B.n) (s:RunS) (hst:0≤s.steps∧s.steps≤1000000000) (regs at_:List Int) (hrl:regs.length≤1000000000) (x:InsS) (xb xo:Nat) (xcs:List Value) (xe:TypeId) (A:Option Addr) (c:Nat) (hX:B.m xb=some ⟨⟨xcs⟩,xe⟩) (hXn:xb < B.n) (hXl:xo+12≤xcs.length) (hXv:takeV xo 12 xcs=insC x A c) (hop:x.op=30) (ho:¬ (stepS s).out.length=10000) (hol:(stepS s).out.length≤100000000) (hdst:x.dst=-1) :
 TE Tryd.prog 92 B 8 [0,3,4,5,6] (fun π=>[.pointer (some ⟨π 0,0,none⟩),.pointer (some ⟨π 5,0,none⟩),.pointer (some ⟨xb,xo,none⟩)]) (frL pb fb fo s regs at_) (.bool (((if (stepS s).fin=0 then { stepS s with out:=argS regs x.a::(stepS s).out } else stepS s):RunS).fin == 0)) (frL pb fb fo (if (stepS s).fin=0 then { stepS s with out:=argS regs x.a::(stepS s).out } else stepS s) (regs) at_):=by
 have htw:twoS x.op=false:=by rw [hop];rfl
 refine TE.intro (fn:=Tryd.f92) (c:=(Tryd.f92.body.getD .skip)) Tryd.func92 (by kernel_rfl) Tryd.ntmps92 (fun π=>by kernel_rfl) (fun π=>⟨⟨_,rfl⟩,⟨_,rfl⟩,⟨_,rfl⟩,⟨_,rfl⟩,⟨_,rfl⟩,trivial⟩) (fr_par _ _ _ hpb hfb (by omega)) (by simp) fun π=>?_
 conv=>arg 2;whnf
 repeat' (first|refine Yo ?_|refine Yz ?_|refine Yw ?_|refine Yg ?_|refine Yq ?_|refine Yc ?_|refine Yp ?_|((with_reducible apply (RS.appendRow (w:=intW) (l0:=(stepS s).out) (q:=argS regs x.a)));(iterate 11 exact rfl);exact Nat.le_of_ble_eq_true rfl;exact fun _=>rfl;exact rfl;omega;omega)|refine Yi ?_|((with_reducible apply RS.lenRow);iterate 3 exact rfl)|refine Ys ?_|refine Yb ?_|refine Y3 ?_|refine Y2 ?_|refine Y7 ?_|refine Y4 ?_|refine Y0 ?_|refine Y12 ?_|refine Y1 ?_|refine Y5 ?_|refine Y6 ?_|((refine YD ?_ ?_)<;>intro _)|((refine YG ?_ ?_)<;>intro _)|((refine YC ?_ ?_)<;>intro _)|((refine YN ?_ ?_)<;>intro _))
 ·have hf:¬ (stepS s).fin=0:=by simpa using ‹(!(stepS s).fin == 0)=true›
  simp only [if_neg hf]
  rw [show ((stepS s).fin == 0)=false by simpa using hf]
  exact endsK_ret _ (.cons (.tmp rfl) .nil) (by (refine AtE.mk [0,1,2,3,4,5,6,7] rfl rfl rfl ?_ ?_ rfl<;>(repeat' (first|exact trivial|exact rfl|exact fr_set List.length_set|apply And.intro));done))
 all_goals
  have hf:(stepS s).fin=0:=by simpa using ‹(!(stepS s).fin == 0)=false›
  simp only [if_pos hf]
  exact endsK_ret _ (.cons (.tmp rfl) .nil) (by (refine AtE.mk [0,9,2,3,4,5,6,7] rfl rfl rfl ?_ ?_ rfl<;>(repeat' (first|exact trivial|exact rfl|exact fr_set List.length_set|apply And.intro));done))
set_option maxHeartbeats 4000000 in
set_option maxRecDepth 100000 in
theorem insL_te (B:Hp) (pb fb fo:Nat) (hpb:pb < B.n) (hfb:fb < B.n) (s:RunS) (hst:0≤s.steps∧s.steps≤1000000000) (regs at_:List Int) (hrl:regs.length≤1000000000) (x:InsS) (xb xo:Nat) (xcs:List Value) (xe:TypeId) (A:Option Addr) (c:Nat) (hX:B.m xb=some ⟨⟨xcs⟩,xe⟩) (hXn:xb < B.n) (hXl:xo+12≤xcs.length) (hXv:takeV xo 12 xcs=insC x A c) (hop:x.op=30) (ho:(stepS s).out.length=10000) (hdst:x.dst=-1) :
 TE Tryd.prog 92 B 8 [0,3,4,5,6] (fun π=>[.pointer (some ⟨π 0,0,none⟩),.pointer (some ⟨π 5,0,none⟩),.pointer (some ⟨xb,xo,none⟩)]) (frL pb fb fo s regs at_) (.bool (((if (stepS s).fin=0 then stopS (stepS s) 45 else stepS s):RunS).fin == 0)) (frL pb fb fo (if (stepS s).fin=0 then stopS (stepS s) 45 else stepS s) (regs) at_):=by
 have htw:twoS x.op=false:=by rw [hop];rfl
 refine TE.intro (fn:=Tryd.f92) (c:=(Tryd.f92.body.getD .skip)) Tryd.func92 (by kernel_rfl) Tryd.ntmps92 (fun π=>by kernel_rfl) (fun π=>⟨⟨_,rfl⟩,⟨_,rfl⟩,⟨_,rfl⟩,⟨_,rfl⟩,⟨_,rfl⟩,trivial⟩) (fr_par _ _ _ hpb hfb (by omega)) (by simp) fun π=>?_
 conv=>arg 2;whnf
 repeat' (first|refine Yo ?_|refine Yz ?_|refine Yg ?_|refine Yq ?_|refine Yc ?_|refine Yp ?_|((with_reducible apply (RS.callO (vs:=[]) [0,1,2,3,4] 0));(iterate 2 exact rfl);exact stop_to _ pb hpb (stepS s) 45;(iterate 2 exact rfl);exact ⟨rfl,rfl,rfl,rfl,rfl,trivial⟩;exact stop_fresh _ _ _ _)|((with_reducible apply RS.lenRow);iterate 3 exact rfl)|refine Ys ?_|refine Yb ?_|refine Y3 ?_|refine Y2 ?_|refine Y7 ?_|refine Y0 ?_|(with_reducible first|apply W.seq|apply W.block|apply W.ret|apply W.skip|apply thenK_n|apply thenK_r|apply blockK_r)|refine Y1 ?_|refine Y5 ?_|refine Y6 ?_|((refine YD ?_ ?_)<;>intro _)|((refine YG ?_ ?_)<;>intro _)|((refine YC ?_ ?_)<;>intro _)|((refine YN ?_ ?_)<;>intro _))
 ·have hf:¬ (stepS s).fin=0:=by simpa using ‹(!(stepS s).fin == 0)=true›
  simp only [if_neg hf]
  rw [show ((stepS s).fin == 0)=false by simpa using hf]
  exact endsK_ret _ (.cons (.tmp rfl) .nil) (by (refine AtE.mk [0,1,2,3,4,5,6,7] rfl rfl rfl ?_ ?_ rfl<;>(repeat' (first|exact trivial|exact rfl|exact fr_set List.length_set|apply And.intro));done))
 all_goals
  have hf:(stepS s).fin=0:=by simpa using ‹(!(stepS s).fin == 0)=false›
  simp only [if_pos hf]
  rw [show ((stopS (stepS s) 45).fin == 0)=false by unfold stopS;rw [if_pos hf];rfl]
  exact endsK_ret _ (.cons (.tmp rfl) .nil) (by (refine AtE.mk [0,1,2,3,4,5,6,7] rfl rfl rfl ?_ ?_ rfl<;>(repeat' (first|exact trivial|exact rfl|exact fr_set List.length_set|apply And.intro));done))
set_option maxHeartbeats 4000000 in
set_option maxRecDepth 100000 in
theorem insM_te (B:Hp) (pb fb fo:Nat) (hpb:pb < B.n) (hfb:fb < B.n) (s:RunS) (hst:0≤s.steps∧s.steps≤1000000000) (regs at_:List Int) (hrl:regs.length≤1000000000) (x:InsS) (xb xo:Nat) (xcs:List Value) (xe:TypeId) (A:Option Addr) (c:Nat) (hX:B.m xb=some ⟨⟨xcs⟩,xe⟩) (hXn:xb < B.n) (hXl:xo+12≤xcs.length) (hXv:takeV xo 12 xcs=insC x A c) (hop:x.op=28∨x.op=29) (r:Int × RunS) (hcl:(stepS s).fin=0→TE Tryd.prog 109 B 8 [0,3,4,5,6] (fun π=>[.pointer (some ⟨π 0,0,none⟩),.pointer (some ⟨π 5,0,none⟩),.pointer (some ⟨xb,xo,none⟩)]) (frL pb fb fo (stepS s) regs at_) (.int .i64 r.1) (frL pb fb fo r.2 regs at_)) (hdst:x.dst < regs.length) :
 TE Tryd.prog 92 B 8 [0,3,4,5,6] (fun π=>[.pointer (some ⟨π 0,0,none⟩),.pointer (some ⟨π 5,0,none⟩),.pointer (some ⟨xb,xo,none⟩)]) (frL pb fb fo s regs at_) (.bool (((if (stepS s).fin=0 then r.2 else stepS s):RunS).fin == 0)) (frL pb fb fo (if (stepS s).fin=0 then r.2 else stepS s) (if (stepS s).fin=0 then setReg regs x.dst r.1 else regs) at_):=by
 have htw:twoS x.op=false:=by rcases hop with hop|hop<;>rw [hop]<;>rfl
 refine TE.intro (fn:=Tryd.f92) (c:=(Tryd.f92.body.getD .skip)) Tryd.func92 (by kernel_rfl) Tryd.ntmps92 (fun π=>by kernel_rfl) (fun π=>⟨⟨_,rfl⟩,⟨_,rfl⟩,⟨_,rfl⟩,⟨_,rfl⟩,⟨_,rfl⟩,trivial⟩) (fr_par _ _ _ hpb hfb (by omega)) (by simp) fun π=>?_
 conv=>arg 2;whnf
 repeat' (first|refine Yo ?_|refine Yz ?_|refine Y1b ?_|refine Yy ?_|refine Yw ?_|refine Yg ?_|refine Yq ?_|refine Yc ?_|refine Yp ?_|((with_reducible apply (RS.callE [0,1,2,3,4,5,6,7] [0,3,4,5,6]));(iterate 2 exact rfl);exact hcl (by simpa using ‹(!(stepS s).fin == 0)=false›);(iterate 2 exact rfl);exact ⟨rfl,rfl,rfl,rfl,rfl,rfl,rfl,rfl,trivial⟩;intro π2 hπ2;rw [← hπ2 0 (by decide) (keepE rfl),← hπ2 5 (by decide) (keepE rfl)])|refine Ys ?_|refine Yb ?_|refine Y2 ?_|refine Ym ?_|refine Y7 ?_|refine Y0 ?_|refine Y12 ?_|refine Y1 ?_|refine Y6 ?_|((refine YD ?_ ?_)<;>intro _)|((refine YG ?_ ?_)<;>intro _)|((refine YC ?_ ?_)<;>intro _)|((refine YN ?_ ?_)<;>intro _))
 ·have hf:¬ (stepS s).fin=0:=by simpa using ‹(!(stepS s).fin == 0)=true›
  simp only [if_neg hf]
  rw [show ((stepS s).fin == 0)=false by simpa using hf]
  exact endsK_ret _ (.cons (.tmp rfl) .nil) (by (refine AtE.mk [0,1,2,3,4,5,6,7] rfl rfl rfl ?_ ?_ rfl<;>(repeat' (first|exact trivial|exact rfl|exact fr_set List.length_set|apply And.intro));done))
 all_goals
  have hf:(stepS s).fin=0:=by simpa using ‹(!(stepS s).fin == 0)=false›
  simp only [if_pos hf]
  unfold setReg
  first
   | rw [if_pos ‹x.dst ≥ 0›];exact endsK_ret _ (.cons (.tmp rfl) .nil) (by (refine AtE.mk [0,1,2,3,4,5,6,7] rfl rfl rfl ?_ ?_ rfl<;>(repeat' (first|exact trivial|exact rfl|exact hπ2 _ (by decide) (keepE rfl)|exact fr_set List.length_set|apply And.intro));done))
   | rw [if_neg ‹¬ x.dst ≥ 0›];exact endsK_ret _ (.cons (.tmp rfl) .nil) (by (refine AtE.mk [0,1,2,3,4,5,6,7] rfl rfl rfl ?_ ?_ rfl<;>(repeat' (first|exact trivial|exact rfl|exact hπ2 _ (by decide) (keepE rfl)|exact fr_set List.length_set|apply And.intro));done))
end Go.Proofs.YtjhloakacicdiaaDoor
