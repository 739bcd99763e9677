/-
  What the functions that the law reaches compute,told by plain data;it holds of programs that pass the check of right form and are light.
-/
import Derived.Carry
import Derived.LaidMore
import Derived.Lib.LaidTab
import Derived.Lib.Space
import Derived.OpenShut
import Derived.ProofKit
import Derived.Shelf.Vars
import Derived.Stop.Joined
import Derived.Test.YtgpigfcagppohaaGreatDoorCards
import Derived.Test.YtgpigfcagppohaaGreatDoorChecked
import Derived.Test.YtgpigfcagppohaaGreatDoorR34
import Derived.Test.YtgpigfcagppohaaGreatDoorR36
import Derived.Test.YtgpigfcagppohaaGreatDoorS2
import Derived.Test.YtgpigfcagppohaaGreatDoorS3
import Derived.Test.YtgpigfcagppohaaGreatDoorTie
set_option linter.unusedVariables false
set_option linter.unusedSimpArgs false
namespace Go.Proofs.YtgpigfcagppohaaGreatDoor
open Go.AH
attribute [local irreducible] W RS WR
section
variable {P:Program} {ops:Array Oper} {draw:Bool} {rs:List Rk} {l:List Oper} {fl:List (Nat × Value)} {nt:Nat} {h:SH} {K:Fr→SH→Prop} {d:Tmp} {ty:TypeId} {pos:String} {af:Array Edge} {gd:Option (Nat × Bool)}
theorem RS.minI [Pend] {t t':TypeId} {x y:Operand} {a b r:Int} (hw:wantB ops ⟨some d,.call { callee:=.builtin .min,args:=#[x,y],argTypes:=#[t,t'] },ty,pos,af,gd⟩ ⟨fl,nt⟩=some true) (hd:Nat.blt d nt=true)
 (hx:Fr.ev ⟨fl,nt⟩ x=some (.int .i64 a)) (hy:Fr.ev ⟨fl,nt⟩ y=some (.int .i64 b)) (e:(if b < a then b else a)=r)
 (hk:RS P ops draw (recP h.k false [] (some [])::rs) l ⟨(d,.int .i64 r)::fl,nt⟩ h K):RS P ops draw rs (⟨some d,.call { callee:=.builtin .min,args:=#[x,y],argTypes:=#[t,t'] },ty,pos,af,gd⟩::l) ⟨fl,nt⟩ h K:=by
 refine RS.free hw hd (v:=.int .i64 r) (fun c g H=>tx_two (u:=.int .i64 a) (w:=.int .i64 b) rfl (fun _ _=>by simp) (g.ev hx) (g.ev hy) (by simp) (by simp) (by simp) fun ev W hu hw'=>?_) (by simp) hk
 have hu:ev x=.int .i64 a:=hu
 have hw':ev y=.int .i64 b:=hw'
 simp only [execOp,resolve,invoke,builtin,Sem.run_bind,Sem.run_pure,Result.andThen_ok,List.map_toArray,List.map_cons,List.map_nil,hu,hw',run_min_int2,e]
theorem RS.maxJ [Pend] {t t':TypeId} {x y:Operand} {a b r:Int} (hw:wantB ops ⟨some d,.call { callee:=.builtin .max,args:=#[x,y],argTypes:=#[t,t'] },ty,pos,af,gd⟩ ⟨fl,nt⟩=some true) (hd:Nat.blt d nt=true)
 (hx:Fr.ev ⟨fl,nt⟩ x=some (.int .i64 a)) (hy:Fr.ev ⟨fl,nt⟩ y=some (.int .i64 b)) (e:(if b > a then b else a)=r)
 (hk:RS P ops draw (recP h.k false [] (some [])::rs) l ⟨(d,.int .i64 r)::fl,nt⟩ h K):RS P ops draw rs (⟨some d,.call { callee:=.builtin .max,args:=#[x,y],argTypes:=#[t,t'] },ty,pos,af,gd⟩::l) ⟨fl,nt⟩ h K:=by
 subst e;exact RS.maxI hw hd hx hy hk
theorem RS.remV [Pend] {t yt:TypeId} {x y:Operand} {k:IntKind} {a b r:Int} (hw:wantB ops ⟨some d,.binOp .rem t x y yt,ty,pos,af,gd⟩ ⟨fl,nt⟩=some true) (hd:Nat.blt d nt=true)
 (hx:Fr.ev ⟨fl,nt⟩ x=some (.int k a)) (hy:Fr.ev ⟨fl,nt⟩ y=some (.int k b)) (hb:b≠0) (hv:a.tmod b=r)
 (hk:RS P ops draw (recP h.k false [] (some [])::rs) l ⟨(d,.int k r)::fl,nt⟩ h K):RS P ops draw rs (⟨some d,.binOp .rem t x y yt,ty,pos,af,gd⟩::l) ⟨fl,nt⟩ h K:=by
 subst hv;exact RS.rem hw hd hx hy hb hk
end
theorem mod_fit {n:Int} {m:Nat} (hm:0 < m) (hb:m≤1000000):∃ i:Nat,i < m∧(n.tmod m+m).tmod m=(i:Int)∧-9223372036854775808≤n.tmod m+m∧n.tmod m+m≤9223372036854775807:=by
 have h1:(n.tmod m).natAbs < m:=by
  rw [Int.natAbs_tmod];simp;exact Nat.mod_lt _ hm
 obtain ⟨i,hi,he⟩:=idx_mod (n:=n) hm hb
 rw [wrap64_fit (by omega) (by omega)] at he
 exact ⟨i,hi,he,by omega,by omega⟩
theorem check_kind {l:List UInt8} {k:Nat} (hl:l.length≤16384) (hk:ckindT l=some k) {B:Hp} (g:G0 B):EX Tryz.prog 8 [.string ⟨⟨l⟩⟩] B (fun v h'=>(∃ A a,v=.tuple ⟨[.pointer A,.agg ⟨[.int .i64 (k:Int),.int .i64 a]⟩]⟩)∧Old B h'):=by
 unfold ckindT at hk
 obtain ⟨r,h1,h2⟩:=Option.map_eq_some_iff.1 hk
 refine (check_ex hl h1 g).mono ?_
 rintro v h' _ ⟨hq,ho⟩
 refine ⟨?_,ho⟩
 cases r with
 | error e=>subst h2;exact ⟨none,e.2,hq⟩
 | ok u =>
  subst h2
  obtain ⟨q,fb,mn,e1,_⟩:=hq
  exact ⟨some ⟨q.pb,0,none⟩,0,e1⟩
set_option maxHeartbeats 4000000 in
theorem limits_tf (n c:Int) (h:Hp) (hg:G0 h):TF Tryz.prog 5 ⟨[.int .i64 n,.int .i64 c]⟩ h (.bool true) h:=by
 obtain ⟨m,hm3,hm,hmb⟩:∃ m:Nat,m < 3∧(n.tmod 3+3).tmod 3=(m:Int)∧-9223372036854775808≤n.tmod 3+3∧n.tmod 3+3≤9223372036854775807:=mod_fit (m:=3) (by decide) (by decide)
 obtain ⟨w,hw3,hw,hwb⟩:∃ m:Nat,m < 3∧(c.tmod 3+3).tmod 3=(m:Int)∧-9223372036854775808≤c.tmod 3+3∧c.tmod 3+3≤9223372036854775807:=mod_fit (m:=3) (by decide) (by decide)
 have hk:=limits_law m hm3 w hw3
 refine TF.exact (fn:=Tryz.f5) (c:=(Tryz.f5.body.getD .skip)) Tryz.func5 (by kernel_rfl) Tryz.ntmps5 (by kernel_rfl) (fun s0=>⟨Nat.le_refl _,by simp,fun i b hb=>⟨s0.dom i b hb,fun u hu=>s0.bd i b hb u hu⟩⟩) fun π s0=>?_
 conv=>arg 2;whnf
 ((with_reducible apply W.seq);repeat (first|refine Ys ?_|refine Y0 ?_|refine Y1 ?_|refine Ym ?_))
 ((with_reducible apply W.seq);repeat (fail))
 ((with_reducible apply W.seq);repeat (first|((with_reducible apply (RS.callA (g0:=7)));(iterate 3 exact rfl);exact fun B' hB'=>fit5_tf B' (hg.up hB'.up))|((with_reducible apply RS.not);iterate 3 exact rfl)|refine Y0 ?_|refine Y1 ?_|refine Y1l ?_|refine Y3 ?_))
 ((with_reducible apply W.seq);repeat (first|((with_reducible apply RS.remV);(iterate 4 exact rfl);first|decide;exact hm|decide;exact rfl)|((with_reducible apply RS.binFit);(iterate 5 exact rfl);exact hmb)|refine Y7 ?_|refine Y1m ?_|refine Y0 ?_|refine Y1 ?_|refine Ym ?_))
 ((with_reducible apply W.seq);repeat (first|refine Y9 ?_|refine Y0 ?_|refine Y1 ?_|refine Ym ?_))
 ((with_reducible apply W.seq);repeat (fail))
 ((with_reducible apply W.seq);repeat (first|((with_reducible apply RS.remV);(iterate 4 exact rfl);first|decide;exact hw|decide;exact rfl)|((with_reducible apply RS.binFit);(iterate 5 exact rfl);exact hwb)|refine Y10 ?_|refine Y0 ?_|refine Y1 ?_|refine Y26 ?_))
 obtain ⟨kd,hkd,hk⟩:∃ kd:Nat,(if m < 2 then 0 else if w=2 then 18 else 5)=kd∧ckindT (limL m w)=some kd:=⟨_,rfl,hk⟩
 have hms:m=0∨m=1∨m=2:=by omega
 have hws:w=0∨w=1∨w=2:=by omega
 have e512:(512:Int)+((m:Int) - 1)=((511+m:Nat):Int):=by omega
 have e409:(4096:Int)+((m:Int) - 1)=((4095+m:Nat):Int):=by omega
 have emn:(if (0:Int) < (m:Int) - 1 then (0:Int) else (m:Int) - 1)=((min (4095+m) 4096:Nat):Int) - 4096:=by split<;>omega
 have e4m:(4096:Int)+(((min (4095+m) 4096:Nat):Int) - 4096)=((min (4095+m) 4096:Nat):Int):=by omega
 have emx:(if (0:Int) > (m:Int) - 1 then (0:Int) else (m:Int) - 1)=((if m=2 then 1 else 0:Nat):Int):=by rcases hms with rfl|rfl|rfl<;>decide
 have hrp:(if m=2 then 1 else 0:Nat)≤1:=by split<;>omega
 rcases hws with rfl|rfl|rfl
 ·have hk:ckindT (lim0++digF 5 (511+m)++lim1)=some kd:=by rw [← hk];exact congrArg ckindT (rfl)
  have hdl:=digF_len 5 (511+m)
  have hnu:511+m < 10 ^ 5:=Nat.lt_of_lt_of_le (show 511+m < 10000 by omega) (by decide)
  have hlen:(lim0++digF 5 (511+m)++lim1).length≤16384:=by
   simp only [List.length_append]
   have h1:lim0.length=20∧lim1.length=14:=by decide
   omega
  obtain ⟨ff,hff⟩:∃ ff:Int,(5:Int)=ff:=⟨_,rfl⟩
  have hc1:lim0.length+(digF 5 (511+m)).length≤100000:=by
   have hlen:=hlen
   simp only [List.length_append] at hlen ⊢
   omega
  have hc2:(lim0++digF 5 (511+m)).length+lim1.length≤100000:=by
   have hlen:=hlen
   simp only [List.length_append] at hlen ⊢
   omega
  have hc3:=hc1
  have hc4:=hc1
  ((with_reducible apply W.seq);repeat (first|refine Ys ?_|refine Y6 ?_|refine Y0 ?_|refine Y1 ?_|refine Y5 ?_|refine Ym ?_))
  ((with_reducible apply W.seq);repeat (first|((with_reducible apply (RS.binFit (n:=((511+m:Nat):Int))));(iterate 4 exact rfl);exact congrArg some e512;omega)|refine Y42 ?_|refine Y4w ?_|((with_reducible apply (RS.callEx (g0:=8)));(iterate 3 exact rfl);intro B1 hB1;have hax:=check_kind hlen hk (hg.up hB1.up);refine ⟨_,hax,?_⟩;rintro v H1 π1 ⟨⟨A,a,rfl⟩,o1⟩ sp1 hle1;have hup1:∀ i c,B1.m i=some c→H1.m i=some c:=(fun i c hi=>(o1.2 i (hB1.dom _ _ hi)).trans hi);have h5m:H1.m (π 0)=some ⟨⟨[.int .i64 0,.int .i64 0]⟩,28⟩:=hup1 _ _ (hB1.loc 0 (Nat.le_of_ble_eq_true rfl));have h6m:H1.m (π 1)=some ⟨⟨[.int .i64 0,.int .i64 0]⟩,28⟩:=hup1 _ _ (hB1.loc 1 (Nat.le_of_ble_eq_true rfl));have hn5:=sp1.dom _ _ h5m;have hn6:=sp1.dom _ _ h6m;have hw5:rwM≤π 0:=Nat.le_trans hB1.rw (hB1.lo 0 (Nat.le_of_ble_eq_true rfl));have hw6:rwM≤π 1:=Nat.le_trans hB1.rw (hB1.lo 1 (Nat.le_of_ble_eq_true rfl));have hl5:h.n≤π 0:=hB1.lo 0 (Nat.le_of_ble_eq_true rfl);have hl6:h.n≤π 1:=hB1.lo 1 (Nat.le_of_ble_eq_true rfl);have hne:π 1≠π 0:=(fun e=>absurd (hB1.inj 1 0 (Nat.le_of_ble_eq_true rfl) (Nat.le_of_ble_eq_true rfl) e) (by decide)))|refine Y2o ?_|refine Y1y ?_|refine Y1f ?_|refine Y2k ?_|refine Y0 ?_|refine Y1 ?_|refine Y5p ?_))
  subst hff
  rcases hms with rfl|rfl|rfl
  all_goals obtain rfl:=hkd
  all_goals repeat (first|refine Y2z ?_|refine Y6i ?_|refine Yr ?_|refine Yd ?_|refine Yb ?_|refine Y6 ?_|refine Y4 ?_|refine Yl ?_|refine Y1z ?_|refine Yk ?_|refine Y0 ?_|refine Yp ?_|refine Y1 ?_)
  all_goals exact endsK_ret _ (.cons (.tmp rfl) .nil) fun B' a2=>⟨rfl,fun i c hi=>a2.up _ _ ((if_neg (fun e=>by have e2:i=π 1:=e;have:=s0.dom _ _ hi;omega)).trans ((if_neg (fun e=>by have e2:i=π 0:=e;have:=s0.dom _ _ hi;omega)).trans (hup1 _ _ (hB1.up _ _ hi))))⟩
 ·have hk:ckindT (limG++digF 5 (min (4095+m) 4096)++limH++repB limI (if m=2 then 1 else 0)++limM)=some kd:=by rw [← hk];exact congrArg ckindT (by rcases hms with rfl|rfl|rfl<;>rfl)
  have hdl:=digF_len 5 (min (4095+m) 4096)
  have hnu:min (4095+m) 4096 < 10 ^ 5:=Nat.lt_of_lt_of_le (show min (4095+m) 4096 < 10000 by omega) (by decide)
  have hlen:(limG++digF 5 (min (4095+m) 4096)++limH++repB limI (if m=2 then 1 else 0)++limM).length≤16384:=by
   simp only [List.length_append,repB_len]
   have h1:limG.length=105∧limH.length=3∧limI.length=7∧limM.length=25:=by decide
   have h2:(if m=2 then 1 else 0) * limI.length≤1 * limI.length:=Nat.mul_le_mul_right _ hrp
   omega
  obtain ⟨ff,hff⟩:∃ ff:Int,(5:Int)=ff:=⟨_,rfl⟩
  have hc1:limG.length+(digF 5 (min (4095+m) 4096)).length≤100000:=by
   have hlen:=hlen
   simp only [List.length_append] at hlen ⊢
   omega
  have hc2:(limG++digF 5 (min (4095+m) 4096)).length+limH.length≤100000:=by
   have hlen:=hlen
   simp only [List.length_append] at hlen ⊢
   omega
  have hc3:(limG++digF 5 (min (4095+m) 4096)++limH).length+(repB limI (if m=2 then 1 else 0)).length≤100000:=by
   have hlen:=hlen
   simp only [List.length_append] at hlen ⊢
   omega
  have hc4:(limG++digF 5 (min (4095+m) 4096)++limH++repB limI (if m=2 then 1 else 0)).length+limM.length≤100000:=by
   have hlen:=hlen
   simp only [List.length_append] at hlen ⊢
   omega
  ((with_reducible apply W.seq);repeat (first|refine Ys ?_|refine Y4 ?_|refine Y0 ?_|refine Y1 ?_|refine Y3 ?_|refine Ym ?_))
  ((with_reducible apply W.seq);repeat (first|refine Ys ?_|refine Y6 ?_|refine Y0 ?_|refine Y1 ?_|refine Y5 ?_|refine Ym ?_))
  ((with_reducible apply W.seq);repeat (first|((with_reducible apply (RS.binFit (n:=((min (4095+m) 4096:Nat):Int))));(iterate 4 exact rfl);exact congrArg some e4m;omega)|((with_reducible apply RS.minI);(iterate 4 exact rfl);exact emn)|((with_reducible apply RS.maxJ);(iterate 4 exact rfl);exact emx)|((with_reducible apply (RS.callA (g0:=10)));(iterate 3 exact rfl);exact fun B' hB'=>rep5_tf _ _ (Nat.le_trans (Nat.mul_le_mul_right _ hrp) (Nat.le_of_ble_eq_true rfl)) (by omega) B')|refine Y42 ?_|refine Y4w ?_|((with_reducible apply (RS.callEx (g0:=8)));(iterate 3 exact rfl);intro B1 hB1;have hax:=check_kind hlen hk (hg.up hB1.up);refine ⟨_,hax,?_⟩;rintro v H1 π1 ⟨⟨A,a,rfl⟩,o1⟩ sp1 hle1;have hup1:∀ i c,B1.m i=some c→H1.m i=some c:=(fun i c hi=>(o1.2 i (hB1.dom _ _ hi)).trans hi);have h5m:H1.m (π 0)=some ⟨⟨[.int .i64 0,.int .i64 0]⟩,28⟩:=hup1 _ _ (hB1.loc 0 (Nat.le_of_ble_eq_true rfl));have h6m:H1.m (π 1)=some ⟨⟨[.int .i64 0,.int .i64 0]⟩,28⟩:=hup1 _ _ (hB1.loc 1 (Nat.le_of_ble_eq_true rfl));have hn5:=sp1.dom _ _ h5m;have hn6:=sp1.dom _ _ h6m;have hw5:rwM≤π 0:=Nat.le_trans hB1.rw (hB1.lo 0 (Nat.le_of_ble_eq_true rfl));have hw6:rwM≤π 1:=Nat.le_trans hB1.rw (hB1.lo 1 (Nat.le_of_ble_eq_true rfl));have hl5:h.n≤π 0:=hB1.lo 0 (Nat.le_of_ble_eq_true rfl);have hl6:h.n≤π 1:=hB1.lo 1 (Nat.le_of_ble_eq_true rfl);have hne:π 1≠π 0:=(fun e=>absurd (hB1.inj 1 0 (Nat.le_of_ble_eq_true rfl) (Nat.le_of_ble_eq_true rfl) e) (by decide)))|refine Y2o ?_|refine Y1y ?_|refine Y1f ?_|refine Y2k ?_|refine Y0 ?_|refine Y1 ?_|refine Y5p ?_))
  subst hff
  rcases hms with rfl|rfl|rfl
  all_goals obtain rfl:=hkd
  all_goals repeat (first|refine Y2z ?_|refine Y6i ?_|refine Yr ?_|refine Yd ?_|refine Yb ?_|refine Y6 ?_|refine Y4 ?_|refine Yl ?_|refine Y1z ?_|refine Yk ?_|refine Y0 ?_|refine Yp ?_|refine Y1 ?_)
  all_goals exact endsK_ret _ (.cons (.tmp rfl) .nil) fun B' a2=>⟨rfl,fun i c hi=>a2.up _ _ ((if_neg (fun e=>by have e2:i=π 1:=e;have:=s0.dom _ _ hi;omega)).trans ((if_neg (fun e=>by have e2:i=π 0:=e;have:=s0.dom _ _ hi;omega)).trans (hup1 _ _ (hB1.up _ _ hi))))⟩
 ·have hk:ckindT (limA++digF 5 (4095+m)++limB)=some kd:=by rw [← hk];exact congrArg ckindT (rfl)
  have hdl:=digF_len 5 (4095+m)
  have hnu:4095+m < 10 ^ 5:=Nat.lt_of_lt_of_le (show 4095+m < 10000 by omega) (by decide)
  have hlen:(limA++digF 5 (4095+m)++limB).length≤16384:=by
   simp only [List.length_append]
   have h1:limA.length=7∧limB.length=27:=by decide
   omega
  obtain ⟨ff,hff⟩:∃ ff:Int,(18:Int)=ff:=⟨_,rfl⟩
  have hc1:limA.length+(digF 5 (4095+m)).length≤100000:=by
   have hlen:=hlen
   simp only [List.length_append] at hlen ⊢
   omega
  have hc2:(limA++digF 5 (4095+m)).length+limB.length≤100000:=by
   have hlen:=hlen
   simp only [List.length_append] at hlen ⊢
   omega
  have hc3:=hc1
  have hc4:=hc1
  ((with_reducible apply W.seq);repeat (first|refine Ys ?_|refine Y4 ?_|refine Y0 ?_|refine Y1 ?_|refine Y3 ?_|refine Ym ?_))
  ((with_reducible apply W.seq);repeat (first|refine Ys ?_|refine Y4 ?_|refine Y0 ?_|refine Y1 ?_|refine Y3 ?_|refine Ym ?_))
  ((with_reducible apply W.seq);repeat (first|((with_reducible apply (RS.binFit (n:=((4095+m:Nat):Int))));(iterate 4 exact rfl);exact congrArg some e409;omega)|refine Y42 ?_|refine Y4w ?_|((with_reducible apply (RS.callEx (g0:=8)));(iterate 3 exact rfl);intro B1 hB1;have hax:=check_kind hlen hk (hg.up hB1.up);refine ⟨_,hax,?_⟩;rintro v H1 π1 ⟨⟨A,a,rfl⟩,o1⟩ sp1 hle1;have hup1:∀ i c,B1.m i=some c→H1.m i=some c:=(fun i c hi=>(o1.2 i (hB1.dom _ _ hi)).trans hi);have h5m:H1.m (π 0)=some ⟨⟨[.int .i64 0,.int .i64 0]⟩,28⟩:=hup1 _ _ (hB1.loc 0 (Nat.le_of_ble_eq_true rfl));have h6m:H1.m (π 1)=some ⟨⟨[.int .i64 0,.int .i64 0]⟩,28⟩:=hup1 _ _ (hB1.loc 1 (Nat.le_of_ble_eq_true rfl));have hn5:=sp1.dom _ _ h5m;have hn6:=sp1.dom _ _ h6m;have hw5:rwM≤π 0:=Nat.le_trans hB1.rw (hB1.lo 0 (Nat.le_of_ble_eq_true rfl));have hw6:rwM≤π 1:=Nat.le_trans hB1.rw (hB1.lo 1 (Nat.le_of_ble_eq_true rfl));have hl5:h.n≤π 0:=hB1.lo 0 (Nat.le_of_ble_eq_true rfl);have hl6:h.n≤π 1:=hB1.lo 1 (Nat.le_of_ble_eq_true rfl);have hne:π 1≠π 0:=(fun e=>absurd (hB1.inj 1 0 (Nat.le_of_ble_eq_true rfl) (Nat.le_of_ble_eq_true rfl) e) (by decide)))|refine Y2o ?_|refine Y1y ?_|refine Y1f ?_|refine Y2k ?_|refine Y0 ?_|refine Y1 ?_|refine Y5p ?_))
  subst hff
  rcases hms with rfl|rfl|rfl
  all_goals obtain rfl:=hkd
  all_goals repeat (first|refine Y2z ?_|refine Y6i ?_|refine Yr ?_|refine Yd ?_|refine Yb ?_|refine Y6 ?_|refine Y4 ?_|refine Yl ?_|refine Y1z ?_|refine Yk ?_|refine Y0 ?_|refine Yp ?_|refine Y1 ?_)
  all_goals exact endsK_ret _ (.cons (.tmp rfl) .nil) fun B' a2=>⟨rfl,fun i c hi=>a2.up _ _ ((if_neg (fun e=>by have e2:i=π 1:=e;have:=s0.dom _ _ hi;omega)).trans ((if_neg (fun e=>by have e2:i=π 0:=e;have:=s0.dom _ _ hi;omega)).trans (hup1 _ _ (hB1.up _ _ hi))))⟩
end Go.Proofs.YtgpigfcagppohaaGreatDoor
namespace Go.Proofs.YtgpigfcagppohaaGreatDoor
open Go.AH Go.ChangeShapes Go.WideShapes Go.ChangeAt Go.RowKit
variable {H:Type} {enc:TypeId × Value→H} {W:World} {G:Nat} {g0:Nat→Option Blk}
theorem trodAll_below {P:Program} (hl:laidOutB P=true) {W W':World} (hb:Below W.heap.size W W'):∀ {ts:List TypeId} {vs:List Value} {ds:List (DataW H)} {ps:List MemPlace},(∀ t∈ts,P.readableRec t=true∧t < P.types.size)→(∀ x∈ps,x.block < W.heap.size)→DataW.TrodAll enc P W 0 (fun _=>true) true ts vs ds ps→DataW.TrodAll enc P W' 0 (fun b=>decide (b < W.heap.size)) true ts vs ds ps:=by
 intro ts
 induction ts with
 | nil =>
  intro vs ds ps _ _ h
  cases vs with
  | nil=>cases ds with
   | nil=>exact h
   | cons d ds=>exact h.elim
  | cons v vs=>exact h.elim
 | cons t ts ih =>
  intro vs ds ps ht hx h
  cases vs with
  | nil=>exact h.elim
  | cons v vs =>
   cases ds with
   | nil=>exact h.elim
   | cons d ds =>
    obtain ⟨p,q,h1,h2,rfl⟩:=h
    exact ⟨p,q,Below.trod hl (ht t (by simp)).1 (ht t (by simp)).2 h1 hb fun x hx'=>hx x (by simp [hx']),ih (fun t ht'=>ht t (by simp [ht'])) (fun x hx'=>hx x (by simp [hx'])) h2,rfl⟩
theorem Tryz.own:ownKnob Tryz.prog.godebug=none:=by kernel_rfl
theorem Tryz.laidOut:laidOutB Tryz.prog=true:=by kernel_rfl
theorem shutB {P:Program} {W:World} {base:Nat} {sp:Nat→Bool} {held:Bool} {t:TypeId} {b:Bool} (ht:P.underlying t=some .bool):DataW.Trod enc P W base sp held t (.bool b) (.lit (.bool b)) []:=⟨1,by simp [DataW.trod,Value.cells,ht]⟩
end Go.Proofs.YtgpigfcagppohaaGreatDoor
namespace Go.Proofs.YtgpigfcagppohaaGreatDoor
open Go Go.AH Go.RowKit
def pLaid : List (String × DataW Unit) := [("unicode.White_Space", Rows.laid_unicode_White_Space), ("strings.asciiSpace", Rows.laid_strings_asciiSpace)]
theorem gSpace : Tryz.prog.globalNamed "strings.asciiSpace" = some 0 := by kernel_rfl
theorem tSpace:(Tryz.prog.globals[0]?).map (·.type)=some 249:=by kernel_rfl
theorem laid_space:(Rows.laid_strings_asciiSpace:DataW Unit)=Lib.tabData .u8 Lib.asciiSpaceTab:=by kernel_rfl
theorem cellsSpace:Tryz.prog.cellsOf 249=256:=by kernel_rfl
theorem cellsU8:Tryz.prog.cellsOf 5=1:=by kernel_rfl
theorem tab_space:Lib.asciiSpaceTab.map (Value.int .u8)=spaceV:=by kernel_rfl
theorem rowSpace:∃ z,((begin Tryz.prog (fun _ _=>0) default).world.heap[0]?).bind Obj.row?=some (z,249):=by
 have h:(((begin Tryz.prog (fun _ _=>0) default).world.heap[0]?).bind Obj.row?).map Prod.snd=some 249:=by kernel_rfl
 obtain ⟨⟨z,t⟩,h1,h2⟩:=Option.map_eq_some_iff.1 h
 simp only at h2
 subst h2
 exact ⟨z,h1⟩
theorem rowMax:((begin Tryz.prog (fun _ _=>0) default).world.heap[1]?).bind Obj.row?=some (#[.int .i64 0],3):=by kernel_rfl
theorem gsizeP:Tryz.prog.globals.size=4:=by kernel_rfl
set_option maxRecDepth 100000 in
theorem p_tab {W : World} (h : laidMetH Tryz.prog pLaid W) : W.var? Tryz.prog "strings.asciiSpace" = some spaceV.toArray := by
 rw [MakeChecks.laidMetH_plain _ _ _ (by kernel_rfl)] at h
 obtain ⟨ps,⟨_,_,_,_,_,_,_,_,_,_,⟨g2,t2,c2,f2,p2,q2,hg2,ht2,hv2,hd2,_,_⟩,_⟩,_⟩:=h
 obtain rfl:=Option.some.inj (gSpace.symm.trans hg2)
 obtain rfl:=Option.some.inj (tSpace.symm.trans ht2)
 rw [laid_space] at hd2
 have e2:=Lib.cells_of_tab Tryz.underlying249 Tryz.underlying5 cellsU8 cellsSpace hd2
 rw [hv2,← tab_space,← e2]
theorem p_start {W:World} (hsh:W.ShapedOpen Tryz.prog) (hL:laidMetH Tryz.prog pLaid W):∃ g0:Nat→Option Blk,(∀ i b,i < Tryz.prog.globals.size→g0 i=some b→(∃ (tail:Array Value) (fr:Nat × Nat),W.heap[i]?=some (.cells (b.cells++tail) b.elem fr))∧∀ v∈b.cells,bnd 0 v)∧∀ ws,G0 (hpW Tryz.prog.globals.size g0 ws):=by
 obtain ⟨z0,h0⟩:=rowSpace
 obtain ⟨c0,hh0,_,_⟩:=hsh.1 _ z0 _ (by rw [gsizeP];decide) h0
 obtain ⟨ds,hd,hds,_⟩:=hsh.1 _ _ _ (by rw [gsizeP];decide) rowMax
 obtain ⟨m,hm⟩:=cell_of_shapedOpen_int hsh (by rw [gsizeP];decide) rowMax rfl (by kernel_rfl) (by kernel_rfl) Tryz.underlying3
 have hn:=p_tab hL
 have e0:c0=spaceV.toArray:=by
  unfold World.var? at hn
  rw [gSpace] at hn
  simpa only [Option.bind_some,hh0,Option.some.injEq] using hn
 have hdv:ds=⟨[.int .i64 m]⟩:=by
  have h1:ds.size=1:=hds
  obtain ⟨l⟩:=ds
  match l,h1 with
  | [v],_ =>
   simp only [World.cell?,hd] at hm
   simp at hm
   rw [hm]
 refine ⟨fun i=>if i=0 then some ⟨⟨spaceV⟩,249⟩ else if i=1 then some ⟨⟨[.int .i64 m]⟩,3⟩ else none,fun i b hi hb=>?_,fun ws=>⟨⟨m,?_⟩,?_⟩⟩
 ·dsimp only at hb
  by_cases q0:i=0
  ·rw [if_pos q0] at hb
   injection hb with hb
   subst hb
   refine ⟨⟨#[],_,by rw [q0,hh0,e0,Array.append_empty]⟩,fun v hv=>?_⟩
   have hv:v∈spaceV:=by simpa using hv
   obtain ⟨s,_,rfl⟩:=List.mem_map.1 hv
   simp
  ·rw [if_neg q0] at hb
   by_cases q1:i=1
   ·rw [if_pos q1] at hb
    injection hb with hb
    subst hb
    refine ⟨⟨#[],_,by rw [q1,hd,hdv,Array.append_empty]⟩,fun v hv=>?_⟩
    have hv:v=.int .i64 m:=by simpa using hv
    rw [hv];simp
   ·rw [if_neg q1] at hb;cases hb
 ·simp [hpW,gsizeP]
 ·simp [hpW,gsizeP]
theorem p_door (os:Os) (args:Array Value):laidMetH Tryz.prog pLaid ((World.doorLaid Tryz.prog 4000 os).forCall (fun _ _=>0) ⟨#[],args,[]⟩).memory :=
 laidMetH_of_parts3 (fuel:=8) (laidMet_of_run' 8 (by kernel_rfl) (by kernel_rfl)) (by kernel_rfl) (by kernel_rfl)
end Go.Proofs.YtgpigfcagppohaaGreatDoor
namespace Go.Proofs.YtgpigfcagppohaaGreatDoor
open Go Go.AH Go.ChangeShapes Go.WideShapes Go.ChangeAt Go.RowKit
set_option maxRecDepth 100000 in
theorem checkLimits_lifted (os:Os) (started:os.Started) (H:Type) (enc:TypeId × Value→H) :
 ReturnsInHanded {} Tryz.checked os 5 .any (fun w args=>(Rows.checkLimitsSpec.pre enc Tryz.prog Tryz.f5 [] false w args∧laidMetH Tryz.prog pLaid w)∧sizedMet enc Tryz.prog Tryz.f5 (OpenSpec.ofChange Rows.checkLimitsSpec) false w args)
  (Rows.checkLimitsSpec.post enc Tryz.prog Tryz.f5 false true false false):=by
 refine handed_and_shaped (C:=Tryz.checked) (X:=fun w _=>laidMetH Tryz.prog pLaid w) (fun _ _ _ hh h=>h.of_heap hh) Tryz.own started (by kernel_rfl) Tryz.func5
  (ChangeSpec.witness_shaped (enc:=enc) (C:=Tryz.checked) (os:=os) (X:=fun w _=>laidMetH Tryz.prog pLaid w) false (World.doorLaid Tryz.prog 4000 os) #[.int .i64 0,.int .i64 0] 8 rfl (World.shaped_of_RefB (by kernel_rfl) (by kernel_rfl)) (by kernel_rfl) (by kernel_rfl) (by kernel_rfl) (p_door os _)) ?_
 intro W base args ds gs before hval0 hW _ hwt0 hL hsh _
 have hval:∀ (j:Nat) t v,Tryz.f5.params[j]?=some t→args[j]?=some v→Value.okWide Tryz.prog W .any base t v:=hval0
 have hW':DataW.Whole enc Tryz.prog Tryz.f5.params.toList Rows.checkLimitsSpec.vars false W args.toList ds gs before:=hW
 obtain ⟨p,q,hA0,hV,hbe,hfz,hnd⟩:=hW
 have hA:DataW.TrodAll enc Tryz.prog W 0 (fun _=>true) true Tryz.f5.params.toList args.toList ds p:=hA0
 have hpar:Tryz.f5.params=#[3,3]:=by kernel_rfl
 have hA1:=hA
 rw [hpar] at hA1 hval
 obtain ⟨v0,v1,d0,d1,p0,p1,rfl,rfl,rfl,h0,h1⟩:=trodAll_two hA1
 obtain ⟨rfl,rfl⟩:=trodVars_none hV
 obtain ⟨n,rfl,_,_,_⟩:=open_int Tryz.underlying3 (hval 0 3 v0 rfl rfl) h0
 obtain ⟨m,rfl,_,_,_⟩:=open_int Tryz.underlying3 (hval 1 3 v1 rfl rfl) h1
 obtain ⟨g0,hg0,hgt⟩:=p_start hsh hL
 have hlay:Lay Tryz.prog.globals.size W []:=⟨fun i w b h=>by simp at h,fun i w b h=>by simp at h⟩
 have hG:Tryz.prog.globals.size+([]:List Win).length≤rwM:=Nat.le_of_ble_eq_true (by kernel_rfl)
 have ht:=limits_tf n m (hpW Tryz.prog.globals.size g0 []) (hgt [])
 have hh:=TF.below ht (fun i b h=>h) (by
  intro x hx
  have hx:x=Value.int .i64 n∨x=.int .i64 m:=by simpa using hx
  rcases hx with rfl|rfl<;>simp) (Lay.hok hlay hG hg0)
 have hargs:(⟨[.int .i64 n,.int .i64 m]⟩:Array Value).map (ren (envW Tryz.prog.globals.size []))=#[.int .i64 n,.int .i64 m]:=by
  simp only [List.map_toArray,List.map_cons,List.map_nil,ren_int]
 rw [hargs] at hh
 refine hh.mono fun e W' ⟨⟨ρ',he⟩,hb⟩=>?_
 have hres:DataW.TrodAll enc Tryz.prog W' W.heap.size (fun _=>false) false [4] [.bool true] [.lit (.bool true)] []:=trodAll_mk1 (shutB (by kernel_rfl))
 refine ⟨.bool true,by simpa using he,[d0,d1],[],before,[],p0++p1,[],hW',hres,?_,rfl,Below.frame hb _,fun h=>by cases h⟩
 refine trodAll_below Tryz.laidOut hb (ts:=Tryz.f5.params.toList) (fun t ht=>?_) (fun x hx=>hW'.lt x (by rw [hbe,List.append_nil];exact hx)) hA
 rw [hpar] at ht
 have ht:t=3:=by simpa using ht
 subst ht
 exact ⟨by kernel_rfl,of_decide_eq_true (by kernel_rfl)⟩
theorem checkLimits_holds:Rows.CheckLimitsSaid :=
 OpenClaim.holds_of_wide 5 Tryz.f5 rfl rfl rfl rfl rfl rfl rfl ⟨rfl,rfl,rfl,rfl,rfl⟩ rfl rfl rfl rfl rfl (by kernel_rfl) Tryz.func5 (by kernel_rfl)
  (of_decide_eq_true (by kernel_rfl)) (by unfold Func.isWrapper;rw [if_neg (by decide +kernel)];exact ⟨rfl,rfl⟩)
  (fun os started H enc _=>checkLimits_lifted os started H enc)
theorem checkLimits_card:Rows.CheckLimitsCardSaid :=
 Claim7.holds_tied_plain_at .later [] [.listed, .data] true (true, "c63b4bed0d00ffcd55c8b572361a0828c2b8495a8bb903e5b9ffd1234f9a7e55") false
  checkLimits_holds (fun _ h=>by cases h) (by kernel_rfl) (fun _ h=>by cases h) checkLimits_row_tie rfl ⟨rfl,rfl⟩ (by kernel_rfl) rfl
  (fun f fn hf hfn=>by
   obtain rfl:f=5:=Option.some.inj ((show Tryz.prog.funcNamed Rows.checkLimitsRow.func=some 5 by kernel_rfl).symm.trans hf) |>.symm
   obtain rfl:fn=Tryz.f5:=(Option.some.inj (Tryz.func5.symm.trans hfn)).symm
   exact ⟨by kernel_rfl,fun j t ht=>by
    rw [show Tryz.f5.params=#[3,3] by kernel_rfl] at ht
    have h3:t=3:=by
     rcases j with _|_|j
     ·simpa using ht.symm
     ·simpa using ht.symm
     ·simp at ht
    subst h3
    exact (show Tryz.prog.wantsStandIn 3=false by kernel_rfl)⟩)
  (by kernel_rfl)
#print axioms checkLimits_card
end Go.Proofs.YtgpigfcagppohaaGreatDoor
