/-
  What the functions that the law reaches compute,told by plain data;it holds of programs that pass the check of right form and are light.
-/
import Derived.Test.YtjhloakacicdiaaDoorR14
import Derived.Test.YtjhloakacicdiaaDoorR15
import Derived.Test.YtjhloakacicdiaaDoorR16
import Derived.Test.YtjhloakacicdiaaDoorR9
import Derived.Test.YtjhloakacicdiaaDoorS2
set_option linter.unusedVariables false
set_option linter.unusedSimpArgs false
namespace Go.Proofs.YtjhloakacicdiaaDoor
open Go.AH
attribute [local irreducible] W RS
theorem argsC_set:∀ {l:List ArgS} {i:Nat} {a:ArgS},i < l.length→setL (argsC l) (0+i * 2) (argC a)=argsC (l.set i a)
 | b::l,0,a,_=>by
  show setL (argC b++argsC l) _ (argC a)=argC a++argsC l
  unfold argC
  rw [setL_cons,setL_cons,setL_nil];rfl
 | b::l,i+1,a,h=>by
  have:=argsC_set (l:=l) (i:=i) (a:=a) (by simpa using h)
  show setL (argC b++argsC l) _ _=argC b++argsC (l.set i a)
  rw [← this,show 0+(i+1) * 2=(argC b).length+(0+i * 2) by simp [argC];omega]
  exact setL_app2 (argC b) (argsC l) _ _
theorem SolAt.fa {h:Hp} {N sb fb ib nb:Nat} {al:List Nat} {n:Nat} {s:SolS} (o:SolAt h N sb fb ib nb al n s) {i a:Nat} {l:List FactS} (ha:al[i]?=some a) (hl:s.ins[i]?=some l):FaAt h (if l=[] then none else some ⟨a,0,none⟩) l:=by
 by_cases e:l=[]
 ·rw [if_pos e,e];exact .none
 ·rw [if_neg e]
  exact .some (o.row i a l ha hl e).2 (Nat.le_trans o.rw (o.row i a l ha hl e).1)
structure KeepH (h:Hp) (N:Nat) (B:Hp):Prop where
 off:OffS (fun j=>N≤j) h B
 oth:∀ j x,h.m j=some x→x.elem≠50→x.elem≠58→x.elem≠46→B.m j=some x
structure FunI (B:Hp) (fb rb:Nat) (FC:List Value):Prop where
 f:B.m fb=some ⟨⟨FC⟩,37⟩
 r:B.m rb=some ⟨⟨cellsV (.agg ⟨funcC ⟨⟨#[]⟩,0,0,0,[],[]⟩ none 0 none 0 none 0⟩)⟩,37⟩
theorem set_self (h:Hp) (i:Nat) (b:Blk):(h.set i b).m i=some b:=by show (if i=i then _ else _)=_;rw [if_pos rfl]
theorem insVC_args {x:InsV} {a b:ArgS} {g:ArgS→ArgS}:insVC ({ x.1 with a:=a,b:=b,args:=x.1.args.map g },x.2)=insC { x.1 with a:=a,b:=b } (insA x) (insK x):=by
 unfold insVC insC insA insK
 rw [rowVl_eq]
 simp
theorem insVC_one (x:InsV):(cellsV (.agg ⟨insVC x⟩)).all (·.oneCell')=true:=by rw [insVC_eq];rfl
theorem insF_args (l:List FactS) (x:InsS):(insF l x).args=x.args.map (argF l)∨(insF l x).args=[]:=by
 unfold insF simpleF knownF
 repeat' split
 all_goals first|exact .inl rfl|exact .inr rfl
set_option maxHeartbeats 2000000 in
set_option maxRecDepth 100000 in
theorem ffunc_ex (h:Hp) (N bb:Nat) (bv:List BV) (f:FuncS) (m:Nat) (A1:Option Addr) (c1:Nat) (A2:Option Addr) (c2 c3:Nat) (hown:OwnA h N bb bv) (hm:m≤1000000) (hregs:f.regs=(m:Int)) (hok:OkL f.regs (sL bv)) (hins:∀ b∈sL bv,∀ x∈b.ins,x.ok∧x.dst < (m:Int)) :
 EX Tryd.prog 61 [.agg ⟨funcC { f with blocks:=sL bv } A1 c1 A2 c2 (some ⟨bb,0,none⟩) c3⟩] h (fun v h'=>∃ bv',v=.agg ⟨funcC { f with blocks:=sL bv' } A1 c1 A2 c2 (some ⟨bb,0,none⟩) c3⟩∧OwnA h' N bb bv'∧FoldS f.regs (sL bv) (sL bv')∧OffS (fun j=>N≤j) h h'∧∀ j x,h.m j=some x→x.elem≠50→x.elem≠58→x.elem≠46→h'.m j=some x):=by
 refine EX.intro (fn:=Tryd.f61) (c:=(Tryd.f61.body.getD .skip)) Tryd.func61 (by kernel_rfl) Tryd.ntmps61 (by kernel_rfl) fun π s0=>?_
 conv=>arg 2;whnf
 have hd:=s0.dom
 obtain ⟨n,hn⟩:∃ n,bv.length=n:=⟨_,rfl⟩
 have hnp:0 < n:=by have:=hok.pos;rw [sL_length] at this;omega
 have hnl:n≤100000:=by have:=hok.len;rw [sL_length] at this;omega
 obtain ⟨FC,hFC⟩:∃ FC:List Value,FC=[.string f.name,.int .i64 f.params,.slice A1 f.secret c1,.int .i64 (m:Int),.slice A2 f.slots.length c2,.slice (some ⟨bb,0,none⟩) n c3]:=⟨_,rfl⟩
 have hfc:funcC { f with blocks:=sL bv } A1 c1 A2 c2 (some ⟨bb,0,none⟩) c3=FC:=by rw [hFC];unfold funcC;rw [sL_length,hn,← hregs]
 ((with_reducible apply W.seq);repeat (first|refine Yf ?_|((with_reducible apply RS.box);iterate 3 exact rfl)|refine Y0 ?_|refine Y1 ?_|refine Yu ?_))
 refine W.absorbX fun B0 π0 a0=>?_
 have hF0:B0.m (π 0)=some ⟨⟨funcC { f with blocks:=sL bv } A1 c1 A2 c2 (some ⟨bb,0,none⟩) c3⟩,37⟩:=a0.loc 0 (Nat.lt_of_lt_of_le Nat.zero_lt_one (Nat.le_succ 1))
 have hfb:h.n≤π 0:=a0.lo 0 (Nat.lt_of_lt_of_le Nat.zero_lt_one (Nat.le_succ 1))
 have hrb:h.n≤π 1:=a0.lo 1 (Nat.lt_succ_self 1)
 have hR0:B0.m (π 1)=some ⟨⟨cellsV (.agg ⟨funcC ⟨⟨#[]⟩,0,0,0,[],[]⟩ none 0 none 0 none 0⟩)⟩,37⟩:=a0.loc 1 (Nat.lt_succ_self 1)
 have hfr:π 0≠π 1:=fun e=>absurd (a0.inj 0 1 (Nat.lt_of_lt_of_le Nat.zero_lt_one (Nat.le_succ 1)) (Nat.lt_succ_self 1) e) (by decide)
 generalize π 0=fb at *
 generalize π 1=rb at *
 have hso:∀ B1,Absb (P:=Tryd.prog) ⟨B0,π0,0,[]⟩ B1→EX Tryd.prog 79 [.pointer (some ⟨fb,0,none⟩)] B1 (fun v h'=>∃ sb ib nb al s',v=.pointer (some ⟨sb,0,none⟩)∧SolRun (sL bv) (sol0 (sL bv).length m) s'∧SolI (sL bv) m s'∧GoodS s'∧SolAt h' B1.n sb fb ib nb al (sL bv).length s'∧Old B1 h'):=fun B1 hB1 =>
  solve_ex fb m (some ⟨bb,0,none⟩) c3 (sL bv) hok.pos hok.len hm hok.tgt (fun b hb=>Nat.le_trans (sizeS_le hb) hok.size) hins B1 ⟨⟨_,hB1.up _ _ hF0,by rw [hfc,hFC];rfl,by rw [hfc,hFC,sL_length,hn];rfl⟩,(hown.up fun i b hb=>hB1.up _ _ (a0.up _ _ hb)).own.sl⟩
 rw [hfc,hFC] at hF0
 have hF:=hF0
 have hFn:=a0.dom _ _ hF
 ((with_reducible apply W.seq);repeat (fail))
 ((with_reducible apply W.seq);repeat (first|refine Y2h ?_|refine Y2 ?_|((with_reducible first|apply RS.lenSl|apply RS.fieldAddr);iterate 3 exact rfl)|refine Y0 ?_|refine Y1 ?_|refine Y2i ?_|refine Y5 ?_))
 ((with_reducible apply W.seq);repeat (first|((with_reducible apply RS.callEx);(iterate 3 exact rfl);intro B1 hB1;refine ⟨_,hso B1 hB1,?_⟩;rintro v H1 π1 ⟨sb,ib,nb,al,s,rfl,hrun,hI,hG,hO1,hold1⟩ sH1 hle1)|refine Y19 ?_|refine Y0 ?_|refine Y1 ?_|refine Yu ?_))
 ((with_reducible apply W.seq);repeat (fail))
 have old1:Old h H1:=(a0.oldH.trans hB1.oldH).trans hold1
 have hF1:=hold1.up hB1.dom _ _ (hB1.up _ _ hF0)
 have hR1:=hold1.up hB1.dom _ _ (hB1.up _ _ hR0)
 have hN:N≤h.n:=Nat.le_trans hown.ge (Nat.le_of_lt (hd _ _ hown.m))
 obtain ⟨N1,hN1⟩:∃ N1,B1.n=N1:=⟨_,rfl⟩
 have hNN:N≤N1:=by rw [← hN1];exact Nat.le_trans hN (Nat.le_trans a0.oldH.1 hB1.oldH.1)
 have hhN1:h.n≤N1:=by rw [← hN1];exact Nat.le_trans a0.oldH.1 hB1.oldH.1
 rw [sL_length,hn,hN1] at hO1
 obtain ⟨Fv,hFv⟩:∃ Fv,foldVs bv s.ins s.seen=Fv:=⟨_,rfl⟩
 have hFl:Fv.length=bv.length:=by rw [← hFv];exact foldVs_length _ _ _
 have hil:s.ins.length=n:=by have:=hI.ins;rw [sL_length,hn] at this;exact this
 have hsl:s.seen.length=n:=by have:=hI.seen;rw [sL_length,hn] at this;exact this
 have hF:=hF1
 have hFn:=sH1.dom _ _ hF
 repeat (first|refine Y2h ?_|refine Y1z ?_|refine Y0 ?_|refine Y13 ?_|refine Y1 ?_)
 refine W.loopN (X:=Nat × List (List FactS)) (fun x=>[(1,.pointer (some ⟨fb,0,none⟩)),(2,.pointer (some ⟨rb,0,none⟩)),(3,.pointer (some ⟨sb,0,none⟩)),(21,.slice (some ⟨bb,0,none⟩) n c3),(22,.int .i64 (n:Int)),(23,.int .i64 (x.1:Int))])
  (fun x B=>x.1≤n∧OwnA B N bb (mixL Fv bv x.1)∧SolAt B N1 sb fb ib nb al n ⟨x.2,s.seen,s.work⟩∧(∀ j,x.1≤j→x.2[j]?=s.ins[j]?)∧FunI B fb rb FC∧KeepH h N B) (fun x=>n - x.1)
  (fun B' x=>⟨(0,s.ins),?_,⟨Nat.zero_le _,?_,hO1.up x.up,fun _ _=>rfl,⟨by rw [hFC];exact x.up _ _ hF1,x.up _ _ hR1⟩,(old1.trans x.oldH).off,fun j y hy _ _ _=>(old1.trans x.oldH).up hd j y hy⟩⟩) ?_
 ·(repeat' (first|exact trivial|exact rfl|apply And.intro));done
 ·dsimp only
  rw [mixL_zero]
  exact hown.up ((old1.trans x.oldH).up hd)
 rintro ⟨i,ins⟩ B π2 sB ⟨hi,hA,hO,hsame,hFI,hK⟩
 dsimp only at hi hA hO hsame hFI hK ⊢
 obtain ⟨AS,capS,hS,hstkS,hAS⟩:=hO.stk
 have hSn:=sB.dom _ _ hS
 have hF:=hFI.f
 rw [hFC] at hF
 have hFn:=sB.dom _ _ hF
 by_cases hlt:i < n
 ·obtain ⟨b,hb⟩:∃ b,bv[i]?=some b:=⟨_,List.getElem?_eq_getElem (by omega)⟩
  obtain ⟨l0,hl0⟩:∃ l,s.ins[i]?=some l:=⟨_,List.getElem?_eq_getElem (by omega)⟩
  have hNb:B.m nb=some ⟨⟨s.seen.map .bool⟩,4⟩:=hO.hn
  have hNbn:=sB.dom _ _ hNb
  rcases seen_some (l:=s.seen) (k:=i) (by omega) with hseen|hseen
  ·obtain ⟨qa,hqa⟩:∃ a,al[i]?=some a:=⟨_,List.getElem?_eq_getElem (by rw [hO.alen];exact hlt)⟩
   have hl0m:l0.length=m:=hI.wid _ _ hl0 hseen
   have hrow:=rowsV_get hqa ((hsame i (Nat.le_refl _)).trans hl0)
   obtain ⟨A6,c6,hv6,hA6⟩:∃ A6 c6,rowVl 2 qa l0=.slice A6 m c6∧A6=if l0=[] then none else some ⟨qa,0,none⟩:=by
    rw [rowVl_eq,hl0m];exact ⟨_,_,rfl,rfl⟩
   rw [hv6] at hrow
   have hIb:=hO.hi
   have hIbn:=sB.dom _ _ hIb
   have hbi:(mixL Fv bv i)[i]?=some b:=by rw [mixL_at hFl];exact hb
   have hBm:=hA.m
   have hBmn:=sB.dom _ _ hBm
   obtain ⟨Ab,cb,hvb,hAb⟩:∃ Ab cb,rowVl 12 b.r b.ins=.slice Ab b.ins.length cb∧Ab=if b.ins=[] then none else some ⟨b.r,0,none⟩:=by
    rw [rowVl_eq];exact ⟨_,_,rfl,rfl⟩
   have hFi:Fv[i]?=some (blockV l0 b):=by rw [← hFv,foldVs_get hb hl0 hseen,if_pos rfl]
   have hbl:b.ins.length≤1000000:=by
    have h1:=Nat.le_trans (sizeS_le (List.mem_of_getElem? (sL_at hb))) hok.size
    have h2:b.s.ins.length=b.ins.length:=by simp [BV.s]
    omega
   have hbs:b.s∈sL bv:=List.mem_of_getElem? (sL_at hb)
   have hfit0:=hG.fit _ (List.mem_of_getElem? hl0)
   repeat (first|refine Y2a ?_|refine Y3s ?_|((with_reducible apply RS.load1B);(iterate 3 exact rfl);first|exact hIb;exact hIbn;exact cells_at hrow|exact hBm;exact hBmn;exact bv_cell hbi (o:=0) (by omega) (by decide) (congrArg some hvb)|exact hF;exact hFn;exact rfl)|refine Y4h ?_|refine Y3 ?_|refine Y0 ?_|refine Y25 ?_|refine Y1 ?_|refine Y6 ?_|refine Y5 ?_)
   refine W.loopN (X:=Nat) (fun k=>[(1,.pointer (some ⟨fb,0,none⟩)),(2,.pointer (some ⟨rb,0,none⟩)),(3,.pointer (some ⟨sb,0,none⟩)),(21,.slice (some ⟨bb,0,none⟩) n c3),(22,.int .i64 (n:Int)),(23,.int .i64 (i:Int)),(4,.int .i64 (i:Int)),(5,.pointer (some ⟨bb,0+i * 9,none⟩)),(6,.slice A6 m c6),(48,.slice Ab b.ins.length cb),(49,.int .i64 (b.ins.length:Int)),(50,.int .i64 (k:Int))])
    (fun k B=>k≤b.ins.length∧OwnA B N bb ((mixL Fv bv i).set i { b with ins:=mixL (insVs l0 b.ins) b.ins k })∧SolAt B N1 sb fb ib nb al n ⟨ins.set i (((b.ins.take k).map (·.1)).foldl stepF l0),s.seen,s.work⟩∧FunI B fb rb FC∧KeepH h N B) (fun k=>b.ins.length - k)
    (fun B' x=>⟨0,?_,⟨Nat.zero_le _,?_,?_,⟨x.up _ _ hFI.f,x.up _ _ hFI.r⟩,hK.off.same x.oldH.off,fun j y h1 h2 h3 h4=>x.up _ _ (hK.oth j y h1 h2 h3 h4)⟩⟩) ?_
   ·(repeat' (first|exact trivial|exact rfl|apply And.intro));done
   ·rw [mixL_zero,set_same hbi];exact hA.up x.up
   ·have:ins.set i (((b.ins.take 0).map (·.1)).foldl stepF l0)=ins:=set_same ((hsame i (Nat.le_refl _)).trans hl0)
    rw [this];exact hO.up x.up
   rintro k B3 π3 sB3 ⟨hk,hA3,hO3,hFI3,hK3⟩
   by_cases hkl:k < b.ins.length
   ·obtain ⟨x,hx⟩:∃ x,b.ins[k]?=some x:=⟨_,List.getElem?_eq_getElem hkl⟩
    have hbn:b.ins≠[]:=by intro e;rw [e] at hkl;exact absurd hkl (Nat.not_lt_zero _)
    have hvl:(insVs l0 b.ins).length=b.ins.length:=insVs_length _ _
    obtain ⟨bk,hbk⟩:∃ bk:BV,bk={ b with ins:=mixL (insVs l0 b.ins) b.ins k }:=⟨_,rfl⟩
    rw [← hbk] at hA3
    have hbw:((mixL Fv bv i).set i bk)[i]?=some bk:=by rw [List.getElem?_set,if_pos rfl,if_pos (by rw [mixL_length hFl];omega)]
    have hbkr:bk.r=b.r:=by rw [hbk]
    have hbki:bk.ins=mixL (insVs l0 b.ins) b.ins k:=by rw [hbk]
    have hbkx:bk.ins[k]?=some x:=by rw [hbki,mixL_at hvl];exact hx
    have hbkn:bk.ins≠[]:=by intro e;rw [e] at hbkx;simp at hbkx
    obtain ⟨hrN,hrow3⟩:=hA3.row bk (List.mem_of_getElem? hbw) hbkn
    rw [hbkr] at hrN hrow3
    have harg3:=fun hn=>hA3.arg bk (List.mem_of_getElem? hbw) x (List.mem_of_getElem? hbkx) hn
    have hrow3n:=sB3.dom _ _ hrow3
    obtain ⟨hXv0,hXl⟩:=flat_take (ins_wid bk.ins) (i:=k) (x:=insVC x) (by rw [List.getElem?_map,hbkx];rfl)
    obtain ⟨Ax,cx,hxc,hAx,hcx⟩:∃ Ax cx,insVC x=insC x.1 Ax cx∧Ax=insA x∧cx=insK x:=⟨_,_,insVC_eq x,rfl,rfl⟩
    have hXv:takeV (0+k * 12) 12 (bk.ins.map insVC).flatten=insC x.1 Ax cx:=by rw [Nat.zero_add,hXv0,hxc]
    have hXl:0+k * 12+12≤(bk.ins.map insVC).flatten.length:=by omega
    rw [if_neg hbn] at hAb
    subst hAb
    obtain ⟨lk,hlk⟩:∃ lk,((b.ins.take k).map (·.1)).foldl stepF l0=lk:=⟨_,rfl⟩
    rw [hlk] at hO3
    have hxs:x.1∈b.s.ins:=List.mem_map_of_mem (List.mem_of_getElem? hx)
    obtain ⟨hxok,hxd⟩:=hins _ hbs _ hxs
    have hlkm:lk.length=m:=by rw [← hlk,stepsF_length];exact hl0m
    have hlkf:FitF lk:=by
     rw [← hlk]
     refine stepsF_fit _ _ hfit0 fun y hy=>?_
     obtain ⟨z,hz,rfl⟩:=List.mem_map.1 hy
     exact (hins _ hbs _ (List.mem_map_of_mem (List.mem_of_mem_take hz))).1
    have hfa3:FaAt B3 A6 lk:=by
     have:=hO3.fa hqa (l:=lk) (by show (ins.set i lk)[i]?=_;rw [List.getElem?_set,if_pos rfl,if_pos (by have:=hO.ilen;dsimp only at this;omega)])
     rw [hA6]
     by_cases e:l0=[]
     ·have:lk=[]:=List.length_eq_zero_iff.1 (by rw [hlkm,← hl0m,e];rfl)
      rw [if_pos e,this];exact .none
     ·have:lk≠[]:=fun e'=>e (List.length_eq_zero_iff.1 (by rw [hl0m,← hlkm,e'];rfl))
      rw [if_neg e];rw [if_neg this] at *;assumption
    ((with_reducible apply W.seq);repeat (first|refine Y3 ?_|refine Y0 ?_|refine Y1 ?_|refine Yu ?_))
    ((with_reducible apply W.seq);repeat (first|refine Y2i ?_|refine Y6 ?_))
    ((with_reducible apply W.seq);repeat (first|(with_reducible apply W.block)))
    ((with_reducible apply W.seq);repeat (first|((with_reducible apply RS.indexAddrS);(iterate 5 exact rfl);exact hkl)|((with_reducible apply RS.loadNB);(iterate 3 exact rfl);exact hrow3;exact hrow3n;exact hXl;exact hXv)|refine Yc ?_|refine Y4 ?_|refine Yf ?_|refine Y0 ?_|refine Y1 ?_|refine Yu ?_))
    ((with_reducible apply W.seq);repeat (first|refine Y4 ?_|refine Yf ?_|refine Y11 ?_|refine Y0 ?_|refine Y1 ?_|refine Yu ?_))
    refine W.absorbX fun C π4 a4=>?_
    have hX0:C.m (π3 0)=some ⟨⟨insC x.1 Ax cx⟩,58⟩:=a4.loc 0 (Nat.lt_of_lt_of_le Nat.zero_lt_one (Nat.le_succ 1))
    have hY0:C.m (π3 1)=some ⟨⟨factC anyF⟩,145⟩:=a4.loc 1 (Nat.lt_succ_self 1)
    have hxg:B3.n≤π3 0:=a4.lo 0 (Nat.lt_of_lt_of_le Nat.zero_lt_one (Nat.le_succ 1))
    have hyg:B3.n≤π3 1:=a4.lo 1 (Nat.lt_succ_self 1)
    generalize π3 0=xb at *
    generalize π3 1=yb at *
    have hrw3:=sB3.rw
    have hxw:rwM≤xb:=Nat.le_trans hrw3 hxg
    have hyw:rwM≤yb:=Nat.le_trans hrw3 hyg
    have hX:=hX0
    have hXn:=a4.dom _ _ hX
    have hY:=hY0
    have hYn:=a4.dom _ _ hY
    have hres:∀ H:Hp,(∀ i b,C.m i=some b→H.m i=some b)→TF Tryd.prog 80 ⟨[.slice A6 m c6,.agg ⟨insC x.1 Ax cx⟩]⟩ H (.agg ⟨factC (resultF lk x.1)⟩) H:=fun H hu=>by
     have:=result_tf lk A6 c6 x.1 Ax cx (by rw [hlkm];omega) hlkf hxok H (hfa3.up fun i b hb=>hu _ _ (a4.up _ _ hb))
     rw [hlkm] at this
     exact this
    with_reducible apply W.seq
    refine W.joinNT (X:=Unit) (fun _=>[(1,.pointer (some ⟨fb,0,none⟩)),(2,.pointer (some ⟨rb,0,none⟩)),(3,.pointer (some ⟨sb,0,none⟩)),(21,.slice (some ⟨bb,0,none⟩) n c3),(22,.int .i64 (n:Int)),(23,.int .i64 (i:Int)),(4,.int .i64 (i:Int)),(5,.pointer (some ⟨bb,0+i * 9,none⟩)),(6,.slice A6 m c6),(48,.slice (some ⟨b.r,0,none⟩) b.ins.length cb),(49,.int .i64 (b.ins.length:Int)),(50,.int .i64 (k:Int)),(7,.int .i64 (k:Int)),(8,.pointer (some ⟨xb,0,none⟩)),(9,.pointer (some ⟨yb,0,none⟩))])
     (fun _ B=>Old B3 B∧B.m xb=some ⟨⟨insC x.1 Ax cx⟩,58⟩∧B.m yb=some ⟨⟨factC (resF lk x.1)⟩,145⟩) ?_ ?_
    ·repeat (first|refine Y12 ?_|refine Ye ?_|refine Y3w ?_|refine Y0 ?_|refine Y3y ?_|refine Y1 ?_)
     repeat' ((first|((refine YD ?_ ?_)<;>intro _)|((refine YG ?_ ?_)<;>intro _)|((refine YC ?_ ?_)<;>intro _)|((refine YN ?_ ?_)<;>intro _))<;>repeat (first|refine Y3r ?_|((with_reducible apply RS.callB);(iterate 3 exact rfl);exact fun H hH=>hres H (base_up a4.dom hH);exact Nm_free (by simp [factC]))|((with_reducible apply RS.storeB);(iterate 3 exact rfl);exact hY;exact hYn;exact hyw;exact Nat.le_of_ble_eq_true rfl;iterate 3 exact rfl)|refine Y1m ?_|refine Y0 ?_|refine Y1 ?_|(with_reducible apply W.skip)))
     ·refine joinN_n rfl fun B' y=>⟨(),?_,(a4.oldH.off.trans (S:=fun j=>B3.n≤j) ((OffS.set C yb _).mono (T:=fun j=>B3.n≤j) fun j _ e=>by rw [e];exact hyg) fun j _ e=>e).old (fun j hj e=>by omega) |>.trans y.oldH,y.up _ _ ?_,y.up _ _ ?_⟩
      ·(repeat' (first|exact trivial|exact rfl|apply And.intro));done
      ·show (if xb=yb then _ else C.m xb)=_
       rw [if_neg (ne_of_elem hX hY (by simp))];exact hX
      ·show (if yb=yb then _ else _)=_
       rw [if_pos rfl]
       have e:resF lk x.1=resultF lk x.1:=by unfold resF;rw [if_pos (by assumption)]
       rw [e];rfl
     ·refine joinN_n rfl fun B' y=>⟨(),?_,a4.oldH.trans y.oldH,y.up _ _ hX,?_⟩
      ·(repeat' (first|exact trivial|exact rfl|apply And.intro));done
      ·have e:resF lk x.1=anyF:=by unfold resF;rw [if_neg (by assumption)]
       rw [e];exact y.up _ _ hY
    rintro ⟨⟩ C1 π5 sC1 ⟨old31,hX,hY⟩
    have hXn:=sC1.dom _ _ hX
    have hYn:=sC1.dom _ _ hY
    have hd3:=sB3.dom
    have hfa5:=hfa3.up (old31.up hd3)
    have hdc:=sC1.dom
    have harg:∀ (a:ArgS) (H:Hp),(∀ i b,C1.m i=some b→H.m i=some b)→TF Tryd.prog 81 ⟨[.slice A6 m c6,.agg ⟨argC a⟩]⟩ H (.agg ⟨argC (argF lk a)⟩) H:=fun a H hu=>by
     have:=farg_tf lk A6 c6 a (by rw [hlkm];omega) H (hfa5.up hu)
     rw [hlkm] at this
     exact this
    ((with_reducible apply W.seq);repeat (first|refine Y3r ?_|refine Y4j ?_|refine Y3c ?_|((with_reducible apply RS.storeB);(iterate 3 exact rfl);exact set_self _ _ _;exact hXn;exact hxw;exact Nat.le_of_ble_eq_true rfl;iterate 3 exact rfl)|refine Y22 ?_|refine Y0 ?_|refine Y1 ?_|refine Yu ?_))
    refine W.absorbX fun C2 π6 a6=>?_
    have hX2:C2.m xb=some ⟨⟨insC { x.1 with a:=argF lk x.1.a,b:=argF lk x.1.b } Ax cx⟩,58⟩:=a6.up xb _ (set_self _ _ _)
    have hxy:yb≠xb:=ne_of_elem hY hX (by simp)
    have hY2:C2.m yb=some ⟨⟨factC (resF lk x.1)⟩,145⟩:=a6.up yb _ (by
     show (if yb=xb then _ else (if yb=xb then _ else C1.m yb))=_
     rw [if_neg hxy,if_neg hxy];exact hY)
    have old32:Old B3 C2:=oldM old31 (N:=B3.n) ((((OffS.set C1 xb _).trans (S:=fun j=>j=xb) (OffS.set _ xb _) fun j _ e=>e).same a6.oldH.off).mono (T:=fun j=>B3.n≤j) (fun j _ e=>by rw [e];exact hxg)) (Nat.le_refl _)
    clear hX hXn hY hYn
    have hX:=hX2
    have hXn:=a6.dom _ _ hX
    have hmap:(x.1.args.map (argF lk)).length=x.1.args.length:=List.length_map _
    have hnargs:x.1.args.length≤1000000:=(hok.fit _ hbs _ hxs).1
    repeat (first|refine Y12 ?_|refine Y1z ?_|refine Y0 ?_|refine Y13 ?_|refine Y1 ?_)
    refine W.loopN (X:=Nat) (fun j=>[(1,.pointer (some ⟨fb,0,none⟩)),(2,.pointer (some ⟨rb,0,none⟩)),(3,.pointer (some ⟨sb,0,none⟩)),(21,.slice (some ⟨bb,0,none⟩) n c3),(22,.int .i64 (n:Int)),(23,.int .i64 (i:Int)),(4,.int .i64 (i:Int)),(5,.pointer (some ⟨bb,0+i * 9,none⟩)),(6,.slice A6 m c6),(48,.slice (some ⟨b.r,0,none⟩) b.ins.length cb),(49,.int .i64 (b.ins.length:Int)),(50,.int .i64 (k:Int)),(7,.int .i64 (k:Int)),(8,.pointer (some ⟨xb,0,none⟩)),(9,.pointer (some ⟨yb,0,none⟩)),(73,.slice Ax x.1.args.length cx),(74,.int .i64 (x.1.args.length:Int)),(75,.int .i64 (j:Int))])
     (fun j B=>j≤x.1.args.length∧OffS (fun p=>x.1.args≠[]∧p=x.2) B3 B∧B.m xb=some ⟨⟨insC { x.1 with a:=argF lk x.1.a,b:=argF lk x.1.b } Ax cx⟩,58⟩∧B.m yb=some ⟨⟨factC (resF lk x.1)⟩,145⟩∧(x.1.args≠[]→B.m x.2=some ⟨⟨argsC (mixL (x.1.args.map (argF lk)) x.1.args j)⟩,46⟩)) (fun j=>x.1.args.length - j)
     (fun B' y=>⟨0,?_,⟨Nat.zero_le _,(old32.trans y.oldH).off,y.up _ _ hX2,y.up _ _ hY2,fun hn=>?_⟩⟩) ?_
    ·(repeat' (first|exact trivial|exact rfl|apply And.intro));done
    ·rw [mixL_zero];exact (old32.trans y.oldH).up hd3 _ _ (harg3 hn).2
    rintro j B7 π7 sB7 ⟨hj,off7,hX7,hY7,hV7⟩
    clear hX hXn
    have hX:=hX7
    have hXn:=sB7.dom _ _ hX
    have keep7:∀ {p:Nat} {y:Blk},B3.m p=some y→y.elem≠46→B7.m p=some y:=fun {p y} hy he=>by
     rw [off7.2 p (hd3 p y hy) (fun e=>ne_of_elem hy (harg3 e.1).2 he e.2)];exact hy
    have hfa7:FaAt B7 A6 lk:=by
     cases hfa3 with
     | none=>exact .none
     | some hm1 hr1=>exact .some (keep7 hm1 (by simp)) hr1
    have hdc:=sB7.dom
    have harg:∀ (a:ArgS) (H:Hp),(∀ i b,B7.m i=some b→H.m i=some b)→TF Tryd.prog 81 ⟨[.slice A6 m c6,.agg ⟨argC a⟩]⟩ H (.agg ⟨argC (argF lk a)⟩) H:=fun a H hu=>by
     have:=farg_tf lk A6 c6 a (by rw [hlkm];omega) H (hfa7.up hu)
     rw [hlkm] at this
     exact this
    by_cases hjl:j < x.1.args.length
    ·have han:x.1.args≠[]:=by intro e;rw [e] at hjl;exact absurd hjl (Nat.not_lt_zero _)
     obtain ⟨aj,haj⟩:∃ a,x.1.args[j]?=some a:=⟨_,List.getElem?_eq_getElem hjl⟩
     have hV:=hV7 han
     have hVn:=sB7.dom _ _ hV
     have hVw:rwM≤x.2:=Nat.le_trans hA3.rw (harg3 han).1
     have hgj:(mixL (x.1.args.map (argF lk)) x.1.args j)[j]?=some aj:=by rw [mixL_at hmap];exact haj
     have hgl:(mixL (x.1.args.map (argF lk)) x.1.args j).length=x.1.args.length:=mixL_length hmap j
     have hVl:0+j * 2+2≤(argsC (mixL (x.1.args.map (argF lk)) x.1.args j)).length:=by rw [argsC_length,hgl];omega
     have hAx2:Ax=some ⟨x.2,0,none⟩:=by rw [hAx];unfold insA;rw [if_neg han]
     subst hAx2
     repeat (first|refine Y12 ?_|refine Y3c ?_|((with_reducible apply RS.indexAddrS);(iterate 5 exact rfl);exact hjl)|((with_reducible apply RS.loadNB);(iterate 3 exact rfl);exact hV;exact hVn;exact hVl;exact argsC_at hgj)|((with_reducible apply RS.storeB);(iterate 3 exact rfl);exact hV;exact hVn;exact hVw;exact hVl;iterate 3 exact rfl)|refine Yn ?_|refine Y3 ?_|refine Yb ?_|refine Ya ?_|refine Y4 ?_|refine Yf ?_|refine Y0 ?_|refine Yj ?_|refine Y1 ?_|refine Y6 ?_)
     refine roundN_n rfl fun B' y=>⟨j+1,?_,⟨hjl,(off7.trans (OffS.set B7 x.2 _) fun p _ e=>⟨han,e⟩).same y.oldH.off,y.up _ _ ?_,y.up _ _ ?_,fun _=>y.up _ _ ?_⟩,by omega⟩
     ·(repeat' (first|exact trivial|exact rfl|apply And.intro));done
     ·show (if xb=x.2 then _ else B7.m xb)=_
      rw [if_neg (ne_of_elem hX7 hV (by simp))];exact hX7
     ·show (if yb=x.2 then _ else B7.m yb)=_
      rw [if_neg (ne_of_elem hY7 hV (by simp))];exact hY7
     ·show (if x.2=x.2 then _ else _)=_
      rw [if_pos rfl]
      have e:argsC (mixL (x.1.args.map (argF lk)) x.1.args (j+1))=setL (argsC (mixL (x.1.args.map (argF lk)) x.1.args j)) (0+j * 2) (argC (argF lk aj)):=by
       rw [argsC_set (by rw [hgl];exact hjl),mixL_set hmap (by rw [List.getElem?_map,haj];rfl)]
      rw [e];rfl
    ·have hjj:j=x.1.args.length:=by omega
     subst hjj
     rw [mixL_all hmap] at hV7
     have hY:=hY7
     have hYn:=sB7.dom _ _ hY
     ((with_reducible apply W.seq);repeat (first|refine Y2 ?_|refine Y0 ?_|refine Y1 ?_|refine Yu ?_))
     ((with_reducible apply W.seq);repeat (first|refine Y46 ?_|refine Y5 ?_|refine Yi ?_))
     with_reducible apply W.seq
     refine W.joinNT (X:=Unit) (fun _=>[(1,.pointer (some ⟨fb,0,none⟩)),(2,.pointer (some ⟨rb,0,none⟩)),(3,.pointer (some ⟨sb,0,none⟩)),(21,.slice (some ⟨bb,0,none⟩) n c3),(22,.int .i64 (n:Int)),(23,.int .i64 (i:Int)),(4,.int .i64 (i:Int)),(5,.pointer (some ⟨bb,0+i * 9,none⟩)),(6,.slice A6 m c6),(48,.slice (some ⟨b.r,0,none⟩) b.ins.length cb),(49,.int .i64 (b.ins.length:Int)),(50,.int .i64 (k:Int)),(7,.int .i64 (k:Int)),(8,.pointer (some ⟨xb,0,none⟩)),(9,.pointer (some ⟨yb,0,none⟩))])
      (fun _ B=>OffS (fun p=>x.1.args≠[]∧p=x.2) B3 B∧B.m xb=some ⟨⟨insVC (knownF lk x.1,x.2)⟩,58⟩∧B.m yb=some ⟨⟨factC (resF lk x.1)⟩,145⟩∧(x.1.args≠[]→B.m x.2=some ⟨⟨argsC (x.1.args.map (argF lk))⟩,46⟩)) ?_ ?_
     ·have hno:¬ ((resF lk x.1).kind=1∧pureS x.1.op=true)→insC { x.1 with a:=argF lk x.1.a,b:=argF lk x.1.b } Ax cx=insVC (knownF lk x.1,x.2):=by
       intro e
       unfold knownF
       rw [if_neg e,insVC_args,hAx,hcx]
      repeat' (first|refine Y12 ?_|refine Y4j ?_|((with_reducible apply RS.callP);(iterate 3 exact rfl);exact fun H=>(pure_tf _ H);exact Nm_free (by simp))|refine Y55 ?_|((with_reducible apply RS.load1B);(iterate 3 exact rfl);exact hY;exact hYn;exact rfl)|refine Y22 ?_|refine Yh ?_|refine Y9 ?_|refine Ye ?_|refine Y11 ?_|refine Yl ?_|refine Y0 ?_|refine Y29 ?_|refine Y1 ?_|refine Y5 ?_|((refine YD ?_ ?_)<;>intro _)|((refine YG ?_ ?_)<;>intro _)|((refine YC ?_ ?_)<;>intro _)|((refine YN ?_ ?_)<;>intro _))
      ·refine joinN_n rfl fun B' y=>⟨(),?_,(off7.trans (OffS.set B7 xb _) fun p hp e=>by omega).same y.oldH.off,y.up _ _ ?_,y.up _ _ ?_,fun hn=>y.up _ _ ?_⟩
       ·(repeat' (first|exact trivial|exact rfl|apply And.intro));done
       ·show (if xb=xb then _ else _)=_
        rw [if_pos rfl]
        have e:knownF lk x.1=plainI 1 x.1.dst ⟨-1,(resF lk x.1).n⟩:=by unfold knownF;rw [if_pos ⟨by assumption,by assumption⟩]
        rw [e];rfl
       ·show (if yb=xb then _ else B7.m yb)=_
        rw [if_neg (ne_of_elem hY7 hX7 (by simp))];exact hY7
       ·show (if x.2=xb then _ else B7.m x.2)=_
        rw [if_neg (ne_of_elem (hV7 hn) hX7 (by simp))];exact hV7 hn
      all_goals
       refine joinN_n rfl fun B' y=>⟨(),?_,off7.same y.oldH.off,y.up _ _ ?_,y.up _ _ hY7,fun hn=>y.up _ _ (hV7 hn)⟩
       ·(repeat' (first|exact trivial|exact rfl|apply And.intro));done
       ·rw [← hno (by simp_all)];exact hX7
     rintro ⟨⟩ C4 π8 sC4 ⟨off8,hX8,hY8,hV8⟩
     clear hX hXn hY hYn
     have hX:=hX8
     have hXn:=sC4.dom _ _ hX
     have hY:=hY8
     have hYn:=sC4.dom _ _ hY
     have keep8:∀ {p:Nat} {y:Blk},B3.m p=some y→y.elem≠46→C4.m p=some y:=fun {p y} hy he=>by
      rw [off8.2 p (hd3 p y hy) (fun e=>ne_of_elem hy (harg3 e.1).2 he e.2)];exact hy
     have hBm:=keep8 hA3.m (by simp)
     have hBmn:=sC4.dom _ _ hBm
     have hvbk:rowVl 12 bk.r bk.ins=.slice (some ⟨b.r,0,none⟩) b.ins.length cb:=by
      rw [← hvb,rowVl_eq,rowVl_eq,if_neg hbkn,if_neg hbkn,if_neg hbn,if_neg hbn,hbkr,hbki,mixL_length hvl]
     have hrow8:=keep8 hrow3 (by simp)
     have hrow8n:=sC4.dom _ _ hrow8
     have hrw8:rwM≤b.r:=Nat.le_trans hA3.rw hrN
     have hfa8:FaAt C4 A6 lk:=by
      cases hfa3 with
      | none=>exact .none
      | some hm1 hr1=>exact .some (keep8 hm1 (by simp)) hr1
     have hkd:(knownF lk x.1).dst=x.1.dst:=by unfold knownF;split<;>rfl
     have hsim:∀ H:Hp,(∀ i b,C4.m i=some b→H.m i=some b)→TF Tryd.prog 83 ⟨[.agg ⟨insVC (knownF lk x.1,x.2)⟩]⟩ H (.agg ⟨insVC (insF lk x.1,x.2)⟩) H:=fun H hu=>by
      refine TF.dom fun hdH=>?_
      have:=simple_tf (knownF lk x.1) (insA (knownF lk x.1,x.2)) (insK (knownF lk x.1,x.2)) H (fun a ha=>by
       unfold insA at ha
       split at ha
       ·cases ha
       ·rename_i hne
        injection ha with ha
        rw [← ha]
        have hxa:x.1.args≠[]:=by
         intro e;apply hne
         unfold knownF
         split
         ·rfl
         ·dsimp only;rw [e];rfl
        exact hdH _ _ (hu _ _ (hV8 hxa)))
      rw [simpleV_eq,← insVC_eq (knownF lk x.1,x.2)] at this
      exact this
     have hsetr:setL (bk.ins.map insVC).flatten (0+k * 12) (cellsV (.agg ⟨insVC (insF lk x.1,x.2)⟩))=((bk.ins.set k (insF lk x.1,x.2)).map insVC).flatten:=by
      have:=flat_set (ins_wid bk.ins) (i:=k) (o:=0) (x:=insVC x) (vs:=insVC (insF lk x.1,x.2)) (by rw [List.getElem?_map,hbkx];rfl) (Nat.le_refl _)
      rw [Nat.zero_add]
      rw [Nat.add_zero] at this
      rw [List.map_set]
      exact this
     ((with_reducible apply W.seq);repeat (first|((with_reducible apply RS.indexAddrS);(iterate 5 exact rfl);exact hkl)|refine Y3r ?_|((with_reducible apply (RS.callB (nv:=none)));(iterate 3 exact rfl);exact fun H hH=>hsim H (base_up sC4.dom hH);exact trivial)|((with_reducible apply RS.load1B);(iterate 3 exact rfl);exact hBm;exact hBmn;exact bv_cell hbw (o:=0) (by omega) (by decide) (congrArg some hvbk))|((with_reducible apply RS.storeB);(iterate 3 exact rfl);exact hrow8;exact hrow8n;exact hrw8;exact hXl;exact rfl;exact insVC_one _;exact hsetr)|refine Y1i ?_|refine Y0 ?_|refine Y1 ?_|refine Yu ?_))
     refine W.absorbX fun C5 π9 a9=>?_
     have hrow9:C5.m b.r=some ⟨⟨((bk.ins.set k (insF lk x.1,x.2)).map insVC).flatten⟩,58⟩:=a9.up _ _ (set_self _ _ _)
     have off9:OffS (fun p=>p=b.r∨(x.1.args≠[]∧p=x.2)) B3 C5:=((off8.mono (T:=fun p=>p=b.r∨(x.1.args≠[]∧p=x.2)) fun p _ e=>.inr e).trans (OffS.set C4 b.r _) fun p _ e=>.inl e).same a9.oldH.off
     have hxbr:xb≠b.r:=fun e=>by omega
     have hX9:C5.m xb=some ⟨⟨insVC (knownF lk x.1,x.2)⟩,58⟩:=a9.up _ _ (by show (if xb=b.r then _ else C4.m xb)=_;rw [if_neg hxbr];exact hX8)
     have keep9:∀ {p:Nat} {y:Blk},C4.m p=some y→y.elem≠58→C5.m p=some y:=fun {p y} hy he=>a9.up _ _ (by
      show (if p=b.r then _ else C4.m p)=_
      rw [if_neg (ne_of_elem hy hrow8 he)];exact hy)
     have hY9:=keep9 hY8 (by simp)
     have hV9:=fun hn=>keep9 (hV8 hn) (by simp)
     have hfa9:FaAt C5 A6 lk:=by
      cases hfa8 with
      | none=>exact .none
      | some hm1 hr1=>exact .some (keep9 hm1 (by simp)) hr1
     clear hX hXn hY hYn
     have hX:=hX9
     have hXn:=a9.dom _ _ hX
     have hY:=hY9
     have hYn:=a9.dom _ _ hY
     refine W.joinNB (X:=Unit) (fun _=>[(1,.pointer (some ⟨fb,0,none⟩)),(2,.pointer (some ⟨rb,0,none⟩)),(3,.pointer (some ⟨sb,0,none⟩)),(21,.slice (some ⟨bb,0,none⟩) n c3),(22,.int .i64 (n:Int)),(23,.int .i64 (i:Int)),(4,.int .i64 (i:Int)),(5,.pointer (some ⟨bb,0+i * 9,none⟩)),(6,.slice A6 m c6),(48,.slice (some ⟨b.r,0,none⟩) b.ins.length cb),(49,.int .i64 (b.ins.length:Int)),(50,.int .i64 (k:Int))])
      (fun _ B=>OffS (fun p=>p=b.r∨(x.1.args≠[]∧p=x.2)∨(l0≠[]∧p=qa)) B3 B∧B.m b.r=some ⟨⟨((bk.ins.set k (insF lk x.1,x.2)).map insVC).flatten⟩,58⟩∧(x.1.args≠[]→B.m x.2=some ⟨⟨argsC (x.1.args.map (argF lk))⟩,46⟩)∧(l0≠[]→B.m qa=some ⟨⟨factsC (stepF lk x.1)⟩,145⟩)) ?_ ?_
     ·have hqa5:l0≠[]→A6=some ⟨qa,0,none⟩:=fun e=>by rw [hA6,if_neg e]
      by_cases hdst:0≤x.1.dst
      ·have hll:x.1.dst.toNat < lk.length:=by omega
       have hln:l0≠[]:=by intro e;rw [e] at hl0m;rw [hlkm,← hl0m] at hll;exact absurd hll (Nat.not_lt_zero _)
       have hA6q:=hqa5 hln
       subst hA6q
       have hnat:(knownF lk x.1).dst=(x.1.dst.toNat:Int):=by rw [hkd];omega
       have hlm:x.1.dst.toNat < m:=by omega
       cases hfa9 with
       | some hQ hQr =>
        have hQn:=a9.dom _ _ hQ
        have hle:0+x.1.dst.toNat * 2+2≤(factsC lk).length:=by rw [factsC_length];omega
        have hst:stepF lk x.1=lk.set x.1.dst.toNat (resF lk x.1):=by unfold stepF resF;rw [if_pos hdst,if_pos hdst]
        repeat (first|refine Y12 ?_|((with_reducible apply RS.indexAddrS);(iterate 4 exact rfl);exact hnat;exact hlm)|((with_reducible apply RS.loadNB);(iterate 3 exact rfl);exact hY;exact hYn;exact Nat.le_of_ble_eq_true rfl;exact rfl)|((with_reducible apply RS.storeB);(iterate 3 exact rfl);exact hQ;exact hQn;exact hQr;exact hle;iterate 3 exact rfl)|refine Y22 ?_|refine Y3 ?_|refine Y0 ?_|(with_reducible first|apply W.seq|apply thenK_n|apply blockK_n)|refine Y1 ?_|refine Y6 ?_)
        refine joinN_n rfl fun B' y=>⟨(),?_,((off9.mono (T:=fun p=>p=b.r∨(x.1.args≠[]∧p=x.2)∨(l0≠[]∧p=qa)) fun p _ e=>e.elim .inl fun e=>.inr (.inl e)).trans (OffS.set C5 qa _) fun p _ e=>.inr (.inr ⟨hln,e⟩)).same y.oldH.off,y.up _ _ ?_,fun hn=>y.up _ _ ?_,fun _=>y.up _ _ ?_⟩
        ·(repeat' (first|exact trivial|exact rfl|apply And.intro));done
        ·show (if b.r=qa then _ else C5.m b.r)=_
         rw [if_neg (ne_of_elem hrow9 hQ (by simp))];exact hrow9
        ·show (if x.2=qa then _ else C5.m x.2)=_
         rw [if_neg (ne_of_elem (hV9 hn) hQ (by simp))];exact hV9 hn
        ·show (if qa=qa then _ else _)=_
         rw [if_pos rfl,hst,← factsC_set hll];rfl
      ·have hst:stepF lk x.1=lk:=by unfold stepF;rw [if_neg hdst]
       repeat (first|refine Y12 ?_|refine Y2 ?_|refine Y3w ?_|refine Y0 ?_|(with_reducible first|apply W.seq|apply W.skip|apply thenK_n|apply blockK_n)|refine Y1 ?_|refine Y5 ?_)
       repeat' ((first|((refine YD ?_ ?_)<;>intro _)|((refine YG ?_ ?_)<;>intro _)|((refine YC ?_ ?_)<;>intro _)|((refine YN ?_ ?_)<;>intro _))<;>repeat (fail))
       all_goals refine joinN_n rfl fun B' y=>⟨(),?_,(off9.mono (T:=fun p=>p=b.r∨(x.1.args≠[]∧p=x.2)∨(l0≠[]∧p=qa)) fun p _ e=>e.elim .inl fun e=>.inr (.inl e)).same y.oldH.off,y.up _ _ hrow9,fun hn=>y.up _ _ (hV9 hn),fun hn=>?_⟩
       all_goals first
        | (exfalso;omega)
        | skip
       ·(repeat' (first|exact trivial|exact rfl|apply And.intro));done
       ·rw [hst]
        have hA6q:=hqa5 hn
        subst hA6q
        cases hfa9 with
        | some hQ _=>exact y.up _ _ hQ
     rintro ⟨⟩ C6 π10 sC6 ⟨off10,hrow10,hV10,hQ10⟩
     repeat (first|refine Y1m ?_|refine Yb ?_|refine Y0 ?_|refine Y1 ?_)
     have hil3:ins.length=n:=by have:=hO3.ilen;dsimp only at this;rw [List.length_set] at this;exact this
     have keepC:∀ {p:Nat} {y:Blk},B3.m p=some y→p≠b.r→(x.1.args≠[]→p≠x.2)→(l0≠[]→p≠qa)→C6.m p=some y:=fun {p y} hy h1 h2 h3=>by
      rw [off10.2 p (hd3 p y hy) (fun e=>by rcases e with e|e|e;exact h1 e;exact h2 e.1 e.2;exact h3 e.1 e.2)];exact hy
     have hqa3:l0≠[]→N1≤qa∧B3.m qa=some ⟨⟨factsC lk⟩,145⟩:=fun hn=>hO3.row i qa lk hqa (by show (ins.set i lk)[i]?=_;rw [List.getElem?_set,if_pos rfl,if_pos (by omega)]) (fun e=>hn (List.length_eq_zero_iff.1 (by rw [hl0m,← hlkm,e];rfl)))
     have hnext:((b.ins.take (k+1)).map (·.1)).foldl stepF l0=stepF lk x.1:=by
      rw [List.take_add_one,hx,List.map_append,List.foldl_append,hlk];rfl
     have hbset:(mixL Fv bv i).set i { b with ins:=mixL (insVs l0 b.ins) b.ins (k+1) }=((mixL Fv bv i).set i bk).set i { bk with ins:=bk.ins.set k (insF lk x.1,x.2) }:=by
      rw [List.set_set]
      congr 1
      rw [hbk]
      dsimp only
      rw [mixL_set hvl (by rw [insVs_get hx,hlk])]
     refine roundN_n rfl fun B' y=>⟨k+1,?_,⟨hkl,?_,?_,⟨y.up _ _ (keepC hFI3.f (ne_of_elem hFI3.f hrow3 (by simp)) (fun hn=>ne_of_elem hFI3.f (harg3 hn).2 (by simp)) (fun hn=>ne_of_elem hFI3.f (hqa3 hn).2 (by simp))),y.up _ _ (keepC hFI3.r (ne_of_elem hFI3.r hrow3 (by simp)) (fun hn=>ne_of_elem hFI3.r (harg3 hn).2 (by simp)) (fun hn=>ne_of_elem hFI3.r (hqa3 hn).2 (by simp)))⟩,(hK3.off.trans off10 fun p hp e=>?_).same y.oldH.off,fun p z h1 h2 h3 h4=>y.up _ _ ?_⟩,by omega⟩
     ·(repeat' (first|exact trivial|exact rfl|apply And.intro));done
     ·rw [hbset]
      refine hA3.setX hbw hbkx (insF lk x.1) (fun hn=>?_) (by rw [hbkr];exact y.up _ _ hrow10) (fun hn=>?_) fun p z hz hE h1 h2=>y.up _ _ (keepC hz (by rw [← hbkr];exact h1) h2 fun hn=>?_)
      ·intro e
       apply hn
       rcases insF_args lk x.1 with h1|h1
       ·rw [h1,e];rfl
       ·exact h1
      ·rcases insF_args lk x.1 with h1|h1
       ·rw [h1]
        exact y.up _ _ (hV10 fun e=>hn (by rw [h1,e];rfl))
       ·exact absurd h1 hn
      ·exact ne_of_elem hz (hqa3 hn).2 (by rcases hE with e|e|e<;>rw [e]<;>simp)
     ·rw [hnext]
      have hE1:∀ {e:TypeId},SolE e→e≠58∧e≠46:=fun {e} h=>by
       rcases h with h|h|h|h|h<;>rw [h]<;>exact ⟨by decide,by decide⟩
      by_cases hln:l0=[]
      ·have hlk0:lk=[]:=List.length_eq_zero_iff.1 (by rw [hlkm,← hl0m,hln];rfl)
       have e:stepF lk x.1=lk:=by
        have:=stepF_length lk x.1
        rw [hlk0] at this ⊢
        exact List.length_eq_zero_iff.1 this
       rw [e]
       exact hO3.upE fun p z hz hE=>y.up _ _ (keepC hz (ne_of_elem hz hrow3 (hE1 hE).1) (fun hn=>ne_of_elem hz (harg3 hn).2 (hE1 hE).2) fun hn=>absurd hln hn)
      ·have:=hO3.setRow (k:=i) (q:=qa) (l:=lk) (m:=stepF lk x.1) hqa (by show (ins.set i lk)[i]?=_;rw [List.getElem?_set,if_pos rfl,if_pos (by omega)]) (fun e=>hln (List.length_eq_zero_iff.1 (by rw [hl0m,← hlkm,e];rfl))) (stepF_length _ _) (y.up _ _ (hQ10 hln)) fun p z hz hE hp=>y.up _ _ (keepC hz (ne_of_elem hz hrow3 (hE1 hE).1) (fun hn=>ne_of_elem hz (harg3 hn).2 (hE1 hE).2) fun _=>hp)
       dsimp only at this
       rw [List.set_set] at this
       exact this
     ·rcases e with e|e|e
      ·rw [e];exact hrN
      ·rw [e.2];exact (harg3 e.1).1
      ·rw [e.2];exact Nat.le_trans hNN (hqa3 e.1).1
     ·have hp3:=hd p z h1
      exact keepC (hK3.oth p z h1 h2 h3 h4) (ne_of_elem (hK3.oth p z h1 h2 h3 h4) hrow3 h3) (fun hn=>ne_of_elem (hK3.oth p z h1 h2 h3 h4) (harg3 hn).2 h4) (fun hn e=>by have:=(hqa3 hn).1;omega)
   ·have hkk:k=b.ins.length:=by omega
    subst hkk
    have hvl:(insVs l0 b.ins).length=b.ins.length:=insVs_length _ _
    rw [mixL_all hvl] at hA3
    rw [List.take_length] at hO3
    obtain ⟨lo,hlo⟩:∃ lo,(b.ins.map (·.1)).foldl stepF l0=lo:=⟨_,rfl⟩
    rw [hlo] at hO3
    have hlom:lo.length=m:=by rw [← hlo,stepsF_length];exact hl0m
    have hfa3:FaAt B3 A6 lo:=by
     have:=hO3.fa hqa (l:=lo) (by show (ins.set i lo)[i]?=_;rw [List.getElem?_set,if_pos rfl,if_pos (by have:=hO.ilen;dsimp only at this;omega)])
     rw [hA6]
     by_cases e:l0=[]
     ·have:lo=[]:=List.length_eq_zero_iff.1 (by rw [hlom,← hl0m,e];rfl)
      rw [if_pos e,this];exact .none
     ·have:lo≠[]:=fun e'=>e (List.length_eq_zero_iff.1 (by rw [hl0m,← hlom,e'];rfl))
      rw [if_neg e];rw [if_neg this] at *;assumption
    obtain ⟨b1,hb1⟩:∃ b1:BV,b1={ b with ins:=insVs l0 b.ins }:=⟨_,rfl⟩
    rw [← hb1] at hA3
    have hb1t:b1.term=b.term:=by rw [hb1]
    obtain ⟨bw,hbw⟩:∃ bw,(mixL Fv bv i).set i b1=bw:=⟨_,rfl⟩
    rw [hbw] at hA3
    have hbwi:bw[i]?=some b1:=by rw [← hbw,List.getElem?_set,if_pos rfl,if_pos (by rw [mixL_length hFl];omega)]
    obtain ⟨b2,hb2⟩:∃ b2:BV,b2={ b1 with term:={ b.term with a:=argF lo b.term.a } }:=⟨_,rfl⟩
    obtain ⟨b3,hb3⟩:∃ b3:BV,b3={ b1 with term:=argsT lo b.term }:=⟨_,rfl⟩
    have hbwi2:(bw.set i b2)[i]?=some b2:=by rw [List.getElem?_set,if_pos rfl,if_pos (List.getElem?_eq_some_iff.1 hbwi).1]
    have hBm:=hA3.m
    have hBmn:=sB3.dom _ _ hBm
    have hbbw:rwM≤bb:=Nat.le_trans hA3.rw hA3.ge
    obtain ⟨hTa,hTal⟩:=bv_cells hbwi (o:=3) (n:=2) (off:=0+i * 9+1+2) (by omega) (by decide)
    obtain ⟨hTb,hTbl⟩:=bv_cells hbwi (o:=5) (n:=2) (off:=0+i * 9+1+4) (by omega) (by decide)
    have hTa:takeV (0+i * 9+1+2) 2 (bw.map BV.c).flatten=argC b.term.a:=by rw [hTa,← hb1t];rfl
    have hTb:takeV (0+i * 9+1+4) 2 (bw.map BV.c).flatten=argC b.term.b:=by rw [hTb,← hb1t];rfl
    have hS1:setL (bw.map BV.c).flatten (0+i * 9+1+2) (cellsV (.agg ⟨argC (argF lo b.term.a)⟩))=((bw.set i b2).map BV.c).flatten:=bv_write (o:=3) hbwi (by omega) (show 3+2≤9 by decide) (by rw [hb2,← hb1t];rfl)
    have hS2:setL ((bw.set i b2).map BV.c).flatten (0+i * 9+1+4) (cellsV (.agg ⟨argC (argF lo b.term.b)⟩))=((bw.set i b3).map BV.c).flatten:=by
     rw [bv_write (o:=5) (b':=b3) (vs:=cellsV (.agg ⟨argC (argF lo b.term.b)⟩)) hbwi2 (by omega) (show 5+2≤9 by decide) (by rw [hb2,hb3];rfl),List.set_set]
    have hS2l:0+i * 9+1+4+2≤((bw.set i b2).map BV.c).flatten.length:=(bv_cells hbwi2 (o:=5) (n:=2) (off:=0+i * 9+1+4) (by omega) (by decide)).2
    have hdc:=sB3.dom
    have harg:∀ (a:ArgS) (H:Hp),(∀ i b,B3.m i=some b→H.m i=some b)→TF Tryd.prog 81 ⟨[.slice A6 m c6,.agg ⟨argC a⟩]⟩ H (.agg ⟨argC (argF lo a)⟩) H:=fun a H hu=>by
     have:=farg_tf lo A6 c6 a (by rw [hlom];omega) H (hfa3.up hu)
     rw [hlom] at this
     exact this
    ((with_reducible apply W.seq);repeat (first|refine Y2 ?_|refine Y0 ?_|refine Y1 ?_|refine Yu ?_))
    ((with_reducible apply W.seq);repeat (first|refine Y46 ?_|refine Y5 ?_|refine Yi ?_))
    ((with_reducible apply W.seq);repeat (first|refine Y15 ?_|refine Y0 ?_|refine Y1 ?_|refine Yu ?_))
    ((with_reducible apply W.seq);repeat (first|refine Y3c ?_|((with_reducible apply RS.loadNB);(iterate 3 exact rfl);first|exact hBm;exact hBmn;exact hTal;exact hTa|exact hBm;exact hBmn;exact hTbl;exact hTb)|((with_reducible apply RS.storeB);(iterate 3 exact rfl);first|exact hBm;exact hBmn;exact hbbw;exact hTal;(iterate 2 exact rfl);exact hS1|exact set_self _ _ _;exact hBmn;exact hbbw;exact hS2l;(iterate 2 exact rfl);exact hS2)|refine Y1i ?_|refine Y0 ?_|refine Y1 ?_|refine Yu ?_))
    refine W.absorbX fun C π4 a4=>?_
    have hbwi3:(bw.set i b3)[i]?=some b3:=by rw [List.getElem?_set,if_pos rfl,if_pos (List.getElem?_eq_some_iff.1 hbwi).1]
    have hC:C.m bb=some ⟨⟨((bw.set i b3).map BV.c).flatten⟩,50⟩:=a4.up _ _ (set_self _ _ _)
    have offC:OffS (fun p=>p=bb) B3 C:=((OffS.set B3 bb _).trans (S:=fun p=>p=bb) (OffS.set _ bb _) fun p _ e=>e).same a4.oldH.off
    have keepC:∀ {p:Nat} {y:Blk},B3.m p=some y→y.elem≠50→C.m p=some y:=fun {p y} hy he=>by
     rw [offC.2 p (sB3.dom p y hy) (ne_of_elem hy hBm he)];exact hy
    have hfaC:FaAt C A6 lo:=by
     cases hfa3 with
     | none=>exact .none
     | some hm1 hr1=>exact .some (keepC hm1 (by simp)) hr1
    have hCn:=a4.dom _ _ hC
    obtain ⟨hTt,hTtl⟩:=bv_term hbwi3 (off:=0+i * 9+1) (by omega)
    have hTt:takeV (0+i * 9+1) 8 ((bw.set i b3).map BV.c).flatten=termC (argsT lo b.term):=by rw [hTt,hb3]
    have hkind:((bw.set i b3).map BV.c).flatten[0+i * 9+1+0]?=some (.int .i64 b.term.kind):=bv_cell hbwi3 (o:=1) (by omega) (by decide) (by rw [hb3];rfl)
    obtain ⟨outs,houts⟩:∃ outs,nextF (argsT lo b.term) lo=outs:=⟨_,rfl⟩
    have hnx:∀ H:Hp,(∀ i b,C.m i=some b→H.m i=some b)→EX Tryd.prog 84 [.agg ⟨termC (argsT lo b.term)⟩,.slice A6 m c6] H (fun v h'=>∃ A' c',v=.slice A' outs.length c'∧IntAt h' A' outs∧Old H h'∧∀ a,A'=some a→H.n≤a.block):=fun H hu=>by
     have:=fnext_ex (argsT lo b.term) lo A6 c6 (by rw [hlom];omega) H (hfaC.up hu)
     rw [hlom,houts] at this
     exact this
    have hmixi:mixL Fv bv (i+1)=(mixL Fv bv i).set i (blockV l0 b):=(mixL_set hFl hFi).symm
    have hil3:ins.length=n:=by have:=hO3.ilen;dsimp only at this;rw [List.length_set] at this;exact this
    have fin:∀ (t':TermS) (B':Hp),termF lo b.term=t'→B'.m bb=some ⟨⟨((bw.set i { b1 with term:=t' }).map BV.c).flatten⟩,50⟩→OffS (fun p=>p=bb) B3 B' →
     i+1≤n∧OwnA B' N bb (mixL Fv bv (i+1))∧SolAt B' N1 sb fb ib nb al n ⟨ins.set i lo,s.seen,s.work⟩∧(∀ j,i+1≤j→(ins.set i lo)[j]?=s.ins[j]?)∧FunI B' fb rb FC∧KeepH h N B':=by
     intro t' B' ht hm' off'
     have keep':∀ {p:Nat} {y:Blk},B3.m p=some y→y.elem≠50→B'.m p=some y:=fun {p y} hy he=>by
      rw [off'.2 p (sB3.dom p y hy) (ne_of_elem hy hBm he)];exact hy
     refine ⟨hlt,?_,hO3.upE fun p y hy hE=>keep' hy (by rcases hE with e|e|e|e|e<;>rw [e]<;>decide),fun j hj=>?_,⟨keep' hFI3.f (by simp),keep' hFI3.r (by simp)⟩,hK3.off.trans off' fun p hp e=>by rw [e];exact hA3.ge,fun p y h1 h2 h3 h4=>keep' (hK3.oth p y h1 h2 h3 h4) h2⟩
     ·have:=hA3.setT hbwi t' hm' fun p y hy he=>keep' hy he
      have e:bw.set i { b1 with term:=t' }=mixL Fv bv (i+1):=by
       rw [hmixi,← hbw,List.set_set]
       congr 1
       rw [hb1,← ht]
       unfold blockV
       rw [hlo]
      rw [← e];exact this
     ·rw [List.getElem?_set,if_neg (by omega)]
      exact hsame j (by omega)
    have noJ:¬ (b.term.kind=2∧∃ ko,outs=[ko])→termF lo b.term=argsT lo b.term:=by
     intro hn
     unfold termF
     rw [houts]
     split
     ·rename_i ko
      rw [if_neg (fun h2=>hn ⟨h2,ko,rfl⟩)]
     ·rfl
    repeat' (first|((with_reducible apply RS.loadNB);(iterate 3 exact rfl);exact hC;exact hCn;exact hTtl;exact hTt)|((with_reducible apply RS.callEx);(iterate 3 exact rfl);intro B5 hB5;refine ⟨_,hnx B5 hB5.up,?_⟩;rintro v H5 π5 ⟨AL,cL,rfl,hrowL,ho5,hnewL⟩ sH5 hle5;have hC5:=(hB5.oldH.trans ho5).up a4.dom _ _ hC;have hC5n:=sH5.dom _ _ hC5)|((with_reducible apply RS.load1B);(iterate 3 exact rfl);exact hC5;exact hC5n;exact hkind)|refine Yd ?_|refine Yh ?_|refine Y9 ?_|refine Ye ?_|refine Yb ?_|refine Yl ?_|refine Y0 ?_|(with_reducible first|apply W.seq|apply W.skip|apply thenK_n|apply blockK_n)|refine Y1 ?_|refine Y5 ?_|((refine YD ?_ ?_)<;>intro _)|((refine YG ?_ ?_)<;>intro _)|((refine YC ?_ ?_)<;>intro _)|((refine YN ?_ ?_)<;>intro _))
    ·obtain ⟨ko,hko⟩:∃ ko,outs=[ko]:=by
      match outs,(by omega:outs.length=1) with
      | [ko],_=>exact ⟨ko,rfl⟩
     subst hko
     have hjt:termF lo b.term=jumpT ko:=by
      unfold termF
      rw [houts]
      exact if_pos (by assumption)
     rcases hrowL with e|⟨nr,rfl,hNr⟩
     ·cases e
     ·have hNrn:=sH5.dom _ _ hNr
      have hJl:0+i * 9+1+8≤((bw.set i b3).map BV.c).flatten.length:=hTtl
      have hJ:setL ((bw.set i b3).map BV.c).flatten (0+i * 9+1) (cellsV (.agg ⟨termC (jumpT ko)⟩))=((bw.set i { b1 with term:=jumpT ko }).map BV.c).flatten:=by
       rw [bv_write (o:=1) (b':={ b1 with term:=jumpT ko }) (vs:=cellsV (.agg ⟨termC (jumpT ko)⟩)) hbwi3 (by omega) (show 1+8≤9 by decide) (by rw [hb3];rfl),List.set_set]
      repeat (first|((with_reducible apply (RS.indexAddrS (n:=0)));(iterate 5 exact rfl);exact Nat.succ_pos _)|((with_reducible apply RS.load1B);(iterate 3 exact rfl);exact hNr;exact hNrn;exact rfl)|((with_reducible apply RS.storeB);(iterate 3 exact rfl);exact hC5;exact hC5n;exact hbbw;exact hJl;(iterate 2 exact rfl);exact hJ)|((with_reducible first|apply RS.nilCheck|apply RS.move);iterate 3 exact rfl)|refine Yb ?_|refine Y11 ?_|refine Y0 ?_|refine Y1 ?_|(with_reducible first|apply thenK_n|apply blockK_n))
      have off5:OffS (fun p=>p=bb) B3 H5:=offC.same (hB5.oldH.trans ho5).off
      refine roundN_n rfl fun B' y=>⟨(i+1,ins.set i lo),?_,fin (jumpT ko) B' hjt (y.up _ _ (set_self _ _ _)) ((off5.trans (S:=fun p=>p=bb) (OffS.set H5 bb _) fun p _ e=>e).same y.oldH.off),by dsimp only;omega⟩
      (repeat' (first|exact trivial|exact rfl|apply And.intro));done
    all_goals
     have off5:OffS (fun p=>p=bb) B3 H5:=offC.same (hB5.oldH.trans ho5).off
     refine roundN_n rfl fun B' y=>⟨(i+1,ins.set i lo),?_,fin (argsT lo b.term) B' (noJ fun hj=>?_) (by rw [← hb3];exact y.up _ _ hC5) (off5.same y.oldH.off),by dsimp only;omega⟩
     ·(repeat' (first|exact trivial|exact rfl|apply And.intro));done
     ·obtain ⟨h2,ko,hko⟩:=hj
      subst hko
      first
       | (exact absurd h2 (by assumption))
       | (exact absurd rfl (by assumption))
       | omega
  ·have hFi:Fv[i]?=some b:=by rw [← hFv,foldVs_get hb hl0 hseen,if_neg (by simp)]
   repeat (first|refine Y2a ?_|refine Y3s ?_|refine Yo ?_|refine Y3 ?_|refine Yb ?_|refine Y0 ?_|(with_reducible first|apply W.seq|apply W.block|apply W.exit|apply W.skip|apply thenK_n|apply thenK_e)|refine Y1 ?_|refine Y6 ?_|refine Yi ?_)
   refine roundN_n rfl fun B' x=>⟨(i+1,ins),?_,⟨hlt,?_,hO.up x.up,fun j hj=>hsame j (by omega),⟨x.up _ _ hFI.f,x.up _ _ hFI.r⟩,hK.off.same x.oldH.off,fun j y h1 h2 h3 h4=>x.up _ _ (hK.oth j y h1 h2 h3 h4)⟩,by dsimp only;omega⟩
   ·(repeat' (first|exact trivial|exact rfl|apply And.intro));done
   ·dsimp only
    rw [← mixL_set hFl hFi,set_same (by rw [mixL_at hFl];exact hb)]
    exact hA.up x.up
 ·have hin:i=n:=by omega
  subst hin
  have hR:=hFI.r
  have hRn:=sB.dom _ _ hR
  have hRw:rwM≤rb:=Nat.le_trans s0.rw hrb
  rw [← hn,mixL_all hFl] at hA
  repeat (first|((with_reducible apply RS.loadNB);(iterate 3 exact rfl);exact hF;exact hFn;exact Nat.le_of_ble_eq_true rfl;exact rfl)|((with_reducible apply RS.storeB);(iterate 3 exact rfl);exact hR;exact hRn;exact hRw;exact Nat.le_of_ble_eq_true rfl;iterate 3 exact rfl)|refine Y2 ?_|refine Y0 ?_|refine Y20 ?_|refine Y1 ?_|refine Y5 ?_|refine Yi ?_)
  refine endsK_ret _ (.cons (.baseN (vs:=[.string f.name,.int .i64 f.params,.slice A1 f.secret c1,.int .i64 (m:Int),.slice A2 f.slots.length c2,.slice (some ⟨bb,0,none⟩) i c3]) rfl (by show (if rb=rb then _ else _)=_;rw [if_pos rfl]) (Nat.le_of_ble_eq_true rfl) rfl) .nil) fun B' x=>?_
  have hk:∀ {j:Nat} {y:Blk},B.m j=some y→y.elem≠37→B'.m j=some y:=fun {j y} hy he=>by
   refine x.up j y ?_
   show (if j=rb then _ else B.m j)=_
   rw [if_neg (ne_of_elem hy hR he)];exact hy
  refine ⟨Fv,?_,hA.keep fun j y hy he=>hk hy ?_,?_,(hK.off.same ((OffS.set B rb _).mono fun j hj e=>?_)).same x.oldH.off,fun j y h1 h2 h3 h4=>?_⟩
  ·show Value.agg _=Value.agg _
   unfold funcC
   rw [sL_length,hFl,hn,← hregs]
  ·rcases he with e|e|e<;>rw [e]<;>decide
  ·rw [← hFv,foldVs_s,hregs]
   exact .mk hrun
  ·rw [e];exact Nat.le_trans hN hrb
  ·refine x.up j y ?_
   show (if j=rb then _ else B.m j)=_
   rw [if_neg (fun e=>by have:=hd j y h1;omega)]
   exact hK.oth j y h1 h2 h3 h4
def fitIB (n:Int):Bool:=decide (-9223372036854775808≤n) && decide (n≤9223372036854775807)
theorem fitIB_ok {n:Int} (h:fitIB n=true):fitI n:=by simpa [fitIB,fitI] using h
def ArgS.okB (a:ArgS):Bool:=fitIB a.reg && fitIB a.num
def InsS.okB (x:InsS):Bool:=fitIB x.op && fitIB x.dst && x.a.okB && x.b.okB && fitIB x.size && fitIB x.ref && fitIB x.off && decide (x.args.length≤281474976710656) && x.args.all ArgS.okB
def TermS.okB (x:TermS):Bool:=fitIB x.kind && fitIB x.op && x.a.okB && x.b.okB && fitIB x.goto && fitIB x.els
def BlockS.okB (x:BlockS):Bool:=decide (x.ins.length≤281474976710656) && x.ins.all InsS.okB && x.term.okB
def FuncS.okB (x:FuncS):Bool:=fitIB x.params && fitIB x.regs && decide (x.secret≤281474976710656) && decide (x.slots.length≤281474976710656) && x.slots.all fitIB && decide (x.blocks.length≤281474976710656) && x.blocks.all BlockS.okB
def PartS.okB (x:PartS):Bool:=fitIB x.kind && fitIB x.n && decide (x.data.length≤281474976710656) && x.data.all (fun a=>decide (0≤a) && decide (a≤255))
def GlobS.okB (x:GlobS):Bool:=fitIB x.place && fitIB x.size && decide (x.parts.length≤281474976710656) && x.parts.all PartS.okB
def ProgS.okB (x:ProgS):Bool:=decide (x.funcs.length≤281474976710656) && x.funcs.all FuncS.okB && decide (x.globals.length≤281474976710656) && x.globals.all GlobS.okB && fitIB x.data && fitIB x.main
theorem ArgS.ok_of {a:ArgS} (h:a.okB=true):a.ok:=by
 simp only [ArgS.okB,Bool.and_eq_true] at h
 exact ⟨fitIB_ok h.1,fitIB_ok h.2⟩
theorem InsS.ok_of {x:InsS} (h:x.okB=true):x.ok:=by
 simp only [InsS.okB,Bool.and_eq_true,decide_eq_true_eq] at h
 obtain ⟨⟨⟨⟨⟨⟨⟨⟨h1,h2⟩,h3⟩,h4⟩,h5⟩,h6⟩,h7⟩,h8⟩,h9⟩:=h
 exact ⟨fitIB_ok h1,fitIB_ok h2,ArgS.ok_of h3,ArgS.ok_of h4,fitIB_ok h5,fitIB_ok h6,fitIB_ok h7,h8,fun a ha=>ArgS.ok_of (List.all_eq_true.1 h9 a ha)⟩
theorem TermS.ok_of {x:TermS} (h:x.okB=true):x.ok:=by
 simp only [TermS.okB,Bool.and_eq_true] at h
 obtain ⟨⟨⟨⟨⟨h1,h2⟩,h3⟩,h4⟩,h5⟩,h6⟩:=h
 exact ⟨fitIB_ok h1,fitIB_ok h2,ArgS.ok_of h3,ArgS.ok_of h4,fitIB_ok h5,fitIB_ok h6⟩
theorem BlockS.ok_of {x:BlockS} (h:x.okB=true):x.ok:=by
 simp only [BlockS.okB,Bool.and_eq_true,decide_eq_true_eq] at h
 exact ⟨h.1.1,fun a ha=>InsS.ok_of (List.all_eq_true.1 h.1.2 a ha),TermS.ok_of h.2⟩
theorem FuncS.ok_of {x:FuncS} (h:x.okB=true):x.ok:=by
 simp only [FuncS.okB,Bool.and_eq_true,decide_eq_true_eq] at h
 obtain ⟨⟨⟨⟨⟨⟨h1,h2⟩,h3⟩,h4⟩,h5⟩,h6⟩,h7⟩:=h
 exact ⟨fitIB_ok h1,fitIB_ok h2,h3,h4,fun a ha=>fitIB_ok (List.all_eq_true.1 h5 a ha),h6,fun a ha=>BlockS.ok_of (List.all_eq_true.1 h7 a ha)⟩
theorem PartS.ok_of {x:PartS} (h:x.okB=true):x.ok:=by
 simp only [PartS.okB,Bool.and_eq_true,decide_eq_true_eq] at h
 obtain ⟨⟨⟨h1,h2⟩,h3⟩,h4⟩:=h
 exact ⟨fitIB_ok h1,fitIB_ok h2,h3,fun a ha=>by have:=List.all_eq_true.1 h4 a ha;simpa using this⟩
theorem GlobS.ok_of {x:GlobS} (h:x.okB=true):x.ok:=by
 simp only [GlobS.okB,Bool.and_eq_true,decide_eq_true_eq] at h
 obtain ⟨⟨⟨h1,h2⟩,h3⟩,h4⟩:=h
 exact ⟨fitIB_ok h1,fitIB_ok h2,h3,fun a ha=>PartS.ok_of (List.all_eq_true.1 h4 a ha)⟩
theorem ProgS.ok_of {x:ProgS} (h:x.okB=true):x.ok:=by
 simp only [ProgS.okB,Bool.and_eq_true,decide_eq_true_eq] at h
 obtain ⟨⟨⟨⟨⟨h1,h2⟩,h3⟩,h4⟩,h5⟩,h6⟩:=h
 exact ⟨h1,fun a ha=>FuncS.ok_of (List.all_eq_true.1 h2 a ha),h3,fun a ha=>GlobS.ok_of (List.all_eq_true.1 h4 a ha),fitIB_ok h5,fitIB_ok h6⟩
def InsOK (f:FuncS):Prop:=∀ b∈f.blocks,∀ x∈b.ins,x.ok∧x.dst < f.regs∧(pureS x.op=true→0≤x.dst)
theorem right_ins {p:ProgS} (hok:p.ok) (hr:rightP p=true):∀ f∈p.funcs,InsOK f:=by
 intro f hf b hb x hx
 unfold rightP at hr
 simp only [Bool.and_eq_true,decide_eq_true_eq] at hr
 have hrf:=List.all_eq_true.1 hr.2 f hf
 unfold funcOK at hrf
 simp only [Bool.and_eq_true,decide_eq_true_eq] at hrf
 have hb':=List.all_eq_true.1 hrf.2 b hb
 unfold blockOK at hb'
 simp only [Bool.and_eq_true] at hb'
 have hx':=List.all_eq_true.1 hb'.1 x hx
 unfold rightS at hx'
 simp only [Bool.and_eq_true,decide_eq_true_eq] at hx'
 refine ⟨((hok.funcs f hf).blocks b hb).ins x hx,by omega,fun hp=>?_⟩
 have hp:=pure_iff.1 hp
 have ht:=hx'.2
 unfold rightT at ht
 repeat' split at ht
 all_goals first
  | omega
  | (simp only [Bool.and_eq_true,decide_eq_true_eq,beq_iff_eq] at ht;first|exact ht.1|exact ht.1.1|exact ht|omega)
def FoldR (f f':FuncS):Prop:=∃ bl',FoldS f.regs f.blocks bl'∧f'={ f with blocks:=bl' }
theorem fold_turn:TurnEX 61 (fun f=>OkL f.regs f.blocks∧InsOK f) FoldR:=by
 intro B N bb bv f A1 c1 A2 c2 sec hK hsec hN hbb hm hod hsl hr1 hr2
 obtain ⟨hok,hio⟩:=hK
 obtain ⟨nm,pa,se,rg,sl,bl⟩:=f
 have hsl:sL bv=bl:=hsl
 subst hsl
 have hown:=hod.ownA hN hbb hm
 have hr0:=hok.r0
 have hr1':=hok.r1
 dsimp only at hr0 hr1'
 have hrg:rg=(rg.toNat:Int):=by omega
 refine (ffunc_ex B N bb bv ⟨nm,pa,se,rg,sl,sL bv⟩ rg.toNat A1 c1 A2 c2 (capOf 9) hown (by omega) hrg hok (fun b hb x hx=>⟨(hio b hb x hx).1,by rw [← hrg];exact (hio b hb x hx).2.1⟩)).mono ?_
 rintro v h' s ⟨bv',rfl,hown',hfold,hoff,hoth⟩
 have row:∀ {α:Type} {e:TypeId} {A:Option Addr} {l:List α} {enc:α→Value},e≠50→e≠58→e≠46→e≠37→e≠25→RowE B N e A l enc→RowE (cutE h') N e A l enc:=by
  intro α e A l enc h1 h2 h3 h4 h5 hr
  exact hr.up fun i b hb hbe=>cutE_in (hoth i b hb (by rw [hbe];exact h1) (by rw [hbe];exact h2) (by rw [hbe];exact h3)) (by rw [hbe];exact h4) (by rw [hbe];exact h5)
 refine ⟨_,_,rfl,⟨A1,c1,A2,c2,some ⟨bb,0,none⟩,capOf 9,sec,rfl,hsec,(row (by decide) (by decide) (by decide) (by decide) (by decide) hr1).sl fun _=>rfl,(row (by decide) (by decide) (by decide) (by decide) (by decide) hr2).sl fun _=>rfl,?_⟩,⟨sL bv',hfold,rfl⟩,hoff⟩
 exact hown'.own.cut.sl
theorem fold_prog_ex (p:ProgS) (hK:∀ f∈p.funcs,(OkL f.regs f.blocks∧InsOK f)∧CopyOK f) (hn:p.funcs.length≤100000) (h:Hp) (pb:Nat) (e:TypeId) (A1:Option Addr) (c1:Nat) (A2:Option Addr) (c2:Nat) (hP:h.m pb=some ⟨⟨progC p A1 c1 A2 c2⟩,e⟩) (hs:SlAt h A1 6 p.funcs (funcRS h)) :
 EX Tryd.prog 35 [.pointer (some ⟨pb,0,none⟩)] h (fun v h'=>∃ ob A c fs,v=.pointer (some ⟨ob,0,none⟩)∧h'.m ob=some ⟨⟨progC { p with funcs:=fs } A c A2 c2⟩,25⟩∧SlAt h' A 6 fs (funcRS h')∧fs.length=p.funcs.length∧(∀ (i:Nat) (f f':FuncS),p.funcs[i]?=some f→fs[i]?=some f'→FoldR f f')∧Old h h'∧h.n≤ob):=by
 refine EX.intro (fn:=Tryd.f35) (c:=(Tryd.f35.body.getD .skip)) Tryd.func35 (by kernel_rfl) Tryd.ntmps35 (by kernel_rfl) fun π s0=>?_
 conv=>arg 2;whnf
 repeat (first|((with_reducible apply RS.callEx);(iterate 3 exact rfl);intro B1 hB1;refine ⟨_,each_ex 61 _ _ fold_turn p hK hn B1 pb e A1 c1 A2 c2 (hB1.up _ _ hP) (hs.mono hB1.up fun _ _ h=>funcRS_mono hB1.up h),?_⟩;rintro v H2 π2 ⟨ob,A,c,fs,rfl,hO,hS,hl,hR,ho,hlo⟩ sH2 hle2)|refine Yc ?_|refine Y0 ?_|refine Y1b ?_|refine Y1 ?_)
 exact endsK_ret _ (.cons (.tmp rfl) .nil) fun B' a=>⟨ob,A,c,fs,rfl,a.up _ _ hO,hS.mono a.up fun _ _ h=>funcRS_mono a.up h,hl,hR,(hB1.oldH.trans ho).trans a.oldH,Nat.le_trans hB1.le hlo⟩
def fit12T:TermS:=⟨3,0,⟨2,0⟩,⟨0,0⟩,0,0⟩
def fit12I:InsS:=⟨1,1,⟨-1,3⟩,⟨0,0⟩,0,false,false,0,0,[]⟩
def fit12J:InsS:=⟨5,2,⟨1,0⟩,⟨-1,4⟩,0,false,false,0,0,[]⟩
def fit12K:InsS:=⟨1,2,⟨-1,12⟩,⟨0,0⟩,0,false,false,0,0,[]⟩
def fit12B:List BlockS:=[⟨[fit12I,fit12J],fit12T⟩]
def fit12C:List BlockS:=[⟨[fit12I,fit12K],⟨3,0,⟨-1,12⟩,⟨0,0⟩,0,0⟩⟩]
def fit12F (bl:List BlockS):FuncS:=⟨⟨#[109,97,105,110]⟩,0,0,3,[],bl⟩
def fit12P (bl:List BlockS):ProgS:=⟨[fit12F bl],[],0,0⟩
theorem fit12_run:SolRun fit12B (sol0 1 3) (roundF fit12B ⟨[[anyF,anyF,anyF]],[true],[]⟩ 0) :=
 .go (k:=0) (w:=[]) (by kernel_rfl) (.stop (by kernel_rfl))
theorem fit12_fold {f':FuncS} (h:FoldR (fit12F fit12B) f'):f'=fit12F fit12C:=by
 obtain ⟨bl',⟨h⟩,rfl⟩:=h
 rename_i s
 have:=fit12_run.det h
 show fit12F _=_
 congr 1
 rw [← this]
 kernel_rfl
theorem fit12_ok:∀ f∈(fit12P fit12B).funcs,(OkL f.regs f.blocks∧InsOK f)∧CopyOK f:=by
 have hok:(fit12P fit12B).ok:=ProgS.ok_of (by kernel_rfl)
 have hl:lightP (fit12P fit12B)=true:=by kernel_rfl
 have hr:rightP (fit12P fit12B)=true:=by kernel_rfl
 intro f hf
 have h1:=light_right hok hl hr f hf
 exact ⟨⟨h1.1,right_ins hok hr f hf⟩,h1.2⟩
theorem fit12_runP:RunP (fit12P fit12C):=(lightP_all (by kernel_rfl)).run (ProgS.ok_of (by kernel_rfl)) (by kernel_rfl)
theorem fit12_val (stk:List Int):(endS (callK (fit12P fit12C) 10 101 (startS 9 (dataS (fit12P fit12C) [] []) stk) 0 [])).exit=12:=by kernel_rfl
instance:FOne Tryd.prog 71 1 1:=⟨by kernel_rfl⟩
set_option maxRecDepth 100000 in
theorem fit12_tf (h:Hp):TF Tryd.prog 34 ⟨[]⟩ h (.bool true) h:=by
 refine TF.exact (fn:=Tryd.f34) (c:=(Tryd.f34.body.getD .skip)) Tryd.func34 (by kernel_rfl) Tryd.ntmps34 (by kernel_rfl) (fun s0=>⟨Nat.le_refl _,by simp,fun i b hb=>⟨s0.dom i b hb,s0.bd i b hb⟩⟩) fun π s0=>?_
 conv=>arg 2;whnf
 ((with_reducible apply W.seq);repeat (first|refine Y19 ?_|refine Y0 ?_|refine Y1 ?_|refine Yu ?_))
 ((with_reducible apply W.seq);repeat (first|((with_reducible apply RS.callB);(iterate 3 exact rfl);first|exact fun H hH=>(numN_tf _ H);exact Nm_free (by simp)|exact fun H hH=>(R_tf _ H);exact Nm_free (by simp))|refine Ym ?_|refine Y4 ?_|refine Yf ?_|refine Y11 ?_|refine Y0 ?_|refine Y1 ?_|refine Yu ?_))
 refine W.absorbX fun B0 π0 a0=>?_
 have m0:B0.m (π 0)=some ⟨⟨insC fit12I none 0++insC fit12J none 0⟩,58⟩:=a0.loc 0 (by decide:(0:Nat) < 4)
 have m1:B0.m (π 1)=some ⟨⟨[.slice (some ⟨π 0,0,none⟩) 2 2,.int .i64 3,.int .i64 0,.int .i64 2,.int .i64 0,.int .i64 0,.int .i64 0,.int .i64 0,.int .i64 0]⟩,50⟩:=a0.loc 1 (by decide:(1:Nat) < 4)
 have m2:B0.m (π 2)=some ⟨⟨[.string ⟨#[109,97,105,110]⟩,.int .i64 0,.slice none 0 0,.int .i64 3,.slice none 0 0,.slice (some ⟨π 1,0,none⟩) 1 1]⟩,37⟩:=a0.loc 2 (by decide:(2:Nat) < 4)
 have m3:B0.m (π 3)=some ⟨⟨progC (fit12P fit12B) (some ⟨π 2,0,none⟩) 1 none 0⟩,25⟩:=a0.loc 3 (by decide:(3:Nat) < 4)
 have hs:SlAt B0 (some ⟨π 2,0,none⟩) 6 (fit12P fit12B).funcs (funcRS B0):=by
  refine slat_one m2 (Nat.le_refl _) ⟨none,0,none,0,some ⟨π 1,0,none⟩,1,[],rfl,rfl,SlAt.nil,SlAt.nil,?_⟩
  refine slat_one m1 (Nat.le_refl _) ⟨some ⟨π 0,0,none⟩,2,rfl,?_⟩
  refine ⟨fun i y hy=>?_⟩
  match i,hy with
  | 0,hy=>simp at hy;subst hy;exact ⟨π 0,0,_,_,rfl,m0,by decide,none,0,rfl,SlAt.nil⟩
  | 1,hy=>simp at hy;subst hy;exact ⟨π 0,0,_,_,rfl,m0,by decide,none,0,rfl,SlAt.nil⟩
  | i+2,hy=>simp at hy
 ((with_reducible apply W.seq);repeat (first|((with_reducible apply RS.callEx);(iterate 3 exact rfl);intro B1 hB1;refine ⟨_,fold_prog_ex (fit12P fit12B) fit12_ok (by decide) B1 (π 3) 25 _ _ _ _ (hB1.up _ _ m3) (hs.mono hB1.up fun _ _ h=>funcRS_mono hB1.up h),?_⟩;rintro v H2 π2 ⟨ob,A,c,fs,rfl,hO,hS,hl,hR,ho,hlo⟩ sH2 hle2)|refine Y19 ?_|refine Y0 ?_|refine Y1 ?_|refine Yu ?_))
 have hl:fs.length=1:=hl
 obtain ⟨f',rfl⟩:∃ f',fs=[f']:=by
  match fs,hl with
  | [f'],_=>exact ⟨f',rfl⟩
 have hf':=fit12_fold (hR 0 _ f' rfl rfl)
 subst hf'
 have hS0:=hS
 obtain ⟨gb,go,gcs,ge,rfl,hG,hGl,G1,g1,G2,g2,G3,g3,sec,hGv,_,_,_,hGB⟩:=hS.get 0 _ rfl
 have hG5:gcs[go+0 * 6+5]?=some (.slice G3 1 g3):=take_nth hGv (j:=5) rfl
 obtain ⟨bb,bo,bcs,be,rfl,hB,hBl,Q1,q1,hBv,hBI⟩:=hGB.get 0 _ rfl
 have hB0:bcs[bo+0 * 9+0]?=some (.slice Q1 2 q1):=take_nth hBv (j:=0) rfl
 obtain ⟨ib,io,ics,ie,rfl,hI,hIl,J1,j1,hIv,_⟩:=hBI.get 1 _ rfl
 have hI0:ics[io+1 * 12+0]?=some (.int .i64 1):=take_nth hIv (j:=0) rfl
 have hGn:=sH2.dom _ _ hG
 have hBn:=sH2.dom _ _ hB
 have hIn:=sH2.dom _ _ hI
 have hOn:=sH2.dom _ _ hO
 have hp:ProgAt H2 ob (fit12P fit12C) 25 (some ⟨gb,go,none⟩) c none 0:=⟨hO,hS0.mono (fun _ _ h=>h) fun _ _ h=>h.r,SlAt.nil⟩
 have hrun:=Run_to H2 sH2.dom (fit12P fit12C) fit12_runP (by decide) (fun g hg=>by cases hg) ob 25 _ _ _ _ hp none 0 0 none 0 0 [] [] InRow.none InRow.none 9 (by decide) 10 (by decide)
 have hv:=fit12_val (List.replicate 416000 0)
 change (runS (fit12P fit12C) 10 [] [] 9).exit=12 at hv
 generalize runS (fit12P fit12C) 10 [] [] 9=r at hrun hv
 obtain ⟨fin,exit,out,leaks,steps,fuel,data,stack,sp,deep⟩:=r
 dsimp only at hv
 subst hv
 have hO:H2.m ob=some ⟨⟨[.slice (some ⟨gb,go,none⟩) 1 c,.slice none 0 0,.int .i64 0,.int .i64 0]⟩,25⟩:=hO
 repeat (first|((with_reducible apply RS.nePtrNil);iterate 4 exact rfl)|((with_reducible apply RS.load1B);(iterate 3 exact rfl);first|exact hO;exact hOn;exact rfl|exact hG;exact hGn;exact hG5|exact hB;exact hBn;exact hB0|exact hI;exact hIn;exact hI0)|((with_reducible apply (RS.indexAddrS (n:=0)));(iterate 5 exact rfl);exact Nat.succ_pos _)|((with_reducible apply (RS.indexAddrS (n:=1)));(iterate 5 exact rfl);exact Nat.succ_lt_succ (Nat.succ_pos _))|((with_reducible apply (RS.callO (vs:=[]) [] 2));(iterate 2 exact rfl);exact hrun;(iterate 2 exact rfl);exact trivial;exact trivial)|((with_reducible apply RS.field1);iterate 4 exact rfl)|refine Yd ?_|refine Yh ?_|refine Y3 ?_|refine Ye ?_|refine Y11 ?_|refine Y0 ?_|refine Y1b ?_|refine Y1 ?_)
 exact endsK_ret _ (.cons (.tmp rfl) .nil) fun B' a=>⟨rfl,fun j x hj=>a.up _ _ ((hB1.oldH.trans ho).up a0.dom _ _ (a0.up _ _ hj))⟩
theorem round_good {bl:List BlockS} (ht:tgtOK bl) (hx:∀ b∈bl,∀ x∈b.ins,x.ok) {r:Nat} {s:SolS} (i:SolI bl r s) (g:GoodS s) {k:Int} {w:List Int} (hw:s.work=k::w):GoodS (roundF bl ⟨s.ins,s.seen,w⟩ k):=by
 obtain ⟨k0,k1,ks⟩:=i.work k (by rw [hw];simp)
 have hkl:k.toNat < bl.length:=by omega
 obtain ⟨b,hb⟩:∃ b,bl[k.toNat]?=some b:=⟨_,List.getElem?_eq_getElem hkl⟩
 obtain ⟨l,hl⟩:∃ l,s.ins[k.toNat]?=some l:=⟨_,List.getElem?_eq_getElem (by rw [i.ins];exact hkl)⟩
 have hbm:=List.mem_of_getElem? hb
 have hlm:=List.mem_of_getElem? hl
 have hout:outF bl ⟨s.ins,s.seen,w⟩ k=b.ins.foldl stepF l:=by
  unfold outF
  rw [hb]
  dsimp only
  rw [hl]
  rfl
 have hlen:(b.ins.foldl stepF l).length=r:=by rw [stepsF_length,i.wid _ _ hl ks]
 have w0:SolW bl.length r ⟨s.ins,s.seen,w⟩:=⟨i.ins,i.seen,i.wid,fun j hj=>i.work j (by rw [hw];simp [hj])⟩
 have g0:GoodS ⟨s.ins,s.seen,w⟩:=⟨g.fit,g.wf⟩
 unfold roundF
 rw [hb,hout]
 dsimp only
 exact (reachFs_left hlen (stepsF_fit _ _ (g.fit _ hlm) (hx b hbm)) (stepsF_wf _ _ (g.wf _ hlm)) _ _ w0 g0 fun o ho=>ht b hbm o (nextF_sub o ho)).1
theorem solRun_good {bl:List BlockS} (ht:tgtOK bl) (hx:∀ b∈bl,∀ x∈b.ins,x.ok) {r:Nat} {s s':SolS} (h:SolRun bl s s'):SolI bl r s→GoodS s→GoodS s':=by
 induction h with
 | stop _=>exact fun _ g=>g
 | go h _ ih=>exact fun i g=>ih (roundF_ok ht i h) (round_good ht hx i g h)
theorem sol0_good {bl:List BlockS} (hpos:0 < bl.length) (regs:Int):GoodS (sol0 bl.length regs):=by
 have w0:SolW bl.length regs.toNat ⟨List.replicate bl.length [],List.replicate bl.length false,[]⟩:=by
  refine ⟨by simp,by simp,fun k l _ hk=>?_,fun k hk=>by cases hk⟩
  have hk:(List.replicate bl.length false)[k]?=some true:=hk
  rw [List.getElem?_replicate] at hk
  split at hk<;>simp at hk
 have hG0:GoodS ⟨List.replicate bl.length [],List.replicate bl.length false,[]⟩:=⟨fun l hl=>(by rw [List.eq_of_mem_replicate hl];exact fun f hf=>absurd hf List.not_mem_nil),fun l hl=>(by rw [List.eq_of_mem_replicate hl];exact fun f hf=>absurd hf List.not_mem_nil)⟩
 exact (reachF_left w0 hG0 (l:=List.replicate regs.toNat anyF) (by simp) (fun f hf=>by rw [List.eq_of_mem_replicate hf];exact fit0) (fun f hf=>.inl (List.eq_of_mem_replicate hf)) (k:=0) (by omega) (by omega)).1
def psizeL (l:List FuncS):Nat:=(l.map fun f=>fsizeS f.blocks).sum
structure KeepsP (p q:ProgS):Prop where
 ok:q.ok
 light:LightP q
 right:rightP q=true
 main:q.main=p.main
 data:q.data=p.data
 glob:q.globals.length=p.globals.length
 len:q.funcs.length=p.funcs.length
 size:psizeL q.funcs≤psizeL p.funcs
 head:∀ (i:Nat) (f f':FuncS),p.funcs[i]?=some f→q.funcs[i]?=some f'→f'.name=f.name∧f'.params=f.params
 run:∀ (N:Nat) (pub sec:List Int) (fuel:Int),(runS p N pub sec fuel).fin=0→(runS q N pub sec fuel).fin=0∧(runS q N pub sec fuel).exit=(runS p N pub sec fuel).exit∧(runS q N pub sec fuel).out=(runS p N pub sec fuel).out∧(runS q N pub sec fuel).steps≤(runS p N pub sec fuel).steps
 two:∀ (N:Nat) (pub sec pub' sec':List Int) (fuel:Int),(runS p N pub sec fuel).fin=0→(runS p N pub' sec' fuel).fin=0→(runS p N pub sec fuel).leaks=(runS p N pub' sec' fuel).leaks→(runS q N pub sec fuel).leaks=(runS q N pub' sec' fuel).leaks
theorem PassSim.run {p q:ProgS} (h:PassSim p q) (N:Nat) (pub sec:List Int) (fuel:Int) (h0:(runS p N pub sec fuel).fin=0):(runS q N pub sec fuel).fin=0∧(runS q N pub sec fuel).exit=(runS p N pub sec fuel).exit∧(runS q N pub sec fuel).out=(runS p N pub sec fuel).out∧(runS q N pub sec fuel).steps≤(runS p N pub sec fuel).steps:=by
 obtain ⟨l,e,_⟩:=run_sim h N pub sec fuel h0
 rw [e]
 exact ⟨h0,rfl,rfl,Int.le_refl _⟩
theorem fitm1:fitI (-1):=⟨by omega,by omega⟩
theorem argF_ok2 {l:List FactS} (hl:FitF l) {a:ArgS} (ha:a.ok):(argF l a).ok:=by
 unfold argF
 split
 ·exact ⟨fitm1,ofF_fit hl ha.2⟩
 ·exact ha
theorem plainI_ok {op dst:Int} {a:ArgS} (ho:fitI op) (hd:fitI dst) (ha:a.ok):(plainI op dst a).ok :=
 ⟨ho,hd,ha,⟨fit0,fit0⟩,fit0,fit0,fit0,Nat.zero_le _,fun b hb=>by cases hb⟩
theorem fit1:fitI 1:=⟨by omega,by omega⟩
theorem fit2:fitI 2:=⟨by omega,by omega⟩
def InsK (x y:InsS):Prop:=y.ok∧y.args.length≤x.args.length
theorem simpleF_ok {x:InsS} (h:x.ok):InsK x (simpleF x):=by
 unfold simpleF
 repeat' split
 ·exact ⟨plainI_ok fit2 h.dst h.a,Nat.zero_le _⟩
 ·exact ⟨plainI_ok fit1 h.dst ⟨fitm1,fit0⟩,Nat.zero_le _⟩
 ·exact ⟨plainI_ok fit2 h.dst h.a,Nat.zero_le _⟩
 ·exact ⟨h,Nat.le_refl _⟩
 ·exact ⟨h,Nat.le_refl _⟩
theorem knownF_ok {l:List FactS} (hl:FitF l) {x:InsS} (h:x.ok):InsK x (knownF l x):=by
 unfold knownF
 split
 ·rename_i hk
  refine ⟨plainI_ok fit1 h.dst ⟨fitm1,?_⟩,Nat.zero_le _⟩
  unfold resF
  split
  ·exact resultF_fit hl h
  ·exact fit0
 ·refine ⟨⟨h.op,h.dst,argF_ok2 hl h.a,argF_ok2 hl h.b,h.size,h.ref,h.off,?_,?_⟩,?_⟩
  ·show (x.args.map (argF l)).length≤_
   rw [List.length_map];exact h.n
  ·intro a ha
   obtain ⟨b,hb,rfl⟩:=List.mem_map.1 ha
   exact argF_ok2 hl (h.args b hb)
  ·show (x.args.map (argF l)).length≤_
   rw [List.length_map];exact Nat.le_refl _
theorem insF_ok {l:List FactS} (hl:FitF l) {x:InsS} (h:x.ok):InsK x (insF l x):=by
 have h1:=knownF_ok hl h
 have h2:=simpleF_ok h1.1
 exact ⟨h2.1,Nat.le_trans h2.2 h1.2⟩
theorem insFs_ok:∀ {xs:List InsS} {l:List FactS},FitF l→(∀ x∈xs,x.ok)→∀ y∈insFs l xs,∃ x∈xs,InsK x y
 | [],_,_,_,y,hy=>by cases hy
 | x::xs,l,hl,hx,y,hy=>by
  rw [insFs] at hy
  rcases List.mem_cons.1 hy with e|e
  ·rw [e];exact ⟨x,by simp,insF_ok hl (hx x (by simp))⟩
  ·obtain ⟨z,hz,hk⟩:=insFs_ok (stepF_fit hl (hx x (by simp))) (fun z hz=>hx z (by simp [hz])) y e
   exact ⟨z,by simp [hz],hk⟩
theorem nextS_fit {t:TermS} (h:t.ok):∀ o∈nextS t,fitI o:=by
 intro o ho
 unfold nextS at ho
 split at ho
 ·rw [List.mem_singleton.1 ho];exact h.goto
 ·split at ho
  ·rcases List.mem_cons.1 ho with e|e
   ·rw [e];exact h.goto
   ·rw [List.mem_singleton.1 e];exact h.els
  ·cases ho
theorem argsT_ok {l:List FactS} (hl:FitF l) {t:TermS} (h:t.ok):(argsT l t).ok:=⟨h.kind,h.op,argF_ok2 hl h.a,argF_ok2 hl h.b,h.goto,h.els⟩
theorem termF_ok {l:List FactS} (hl:FitF l) {t:TermS} (h:t.ok):(termF l t).ok:=by
 have ha:=argsT_ok hl h
 unfold termF
 split
 ·rename_i k hk
  split
  ·exact ⟨fit1,fit0,⟨fit0,fit0⟩,⟨fit0,fit0⟩,nextS_fit ha k (nextF_sub k (by rw [hk];simp)),fit0⟩
  ·exact ha
 ·exact ha
def BlockK (b c:BlockS):Prop:=c.ok∧c.ins.length=b.ins.length∧∀ y∈c.ins,∃ x∈b.ins,InsK x y
theorem blockF_ok {l:List FactS} (hl:FitF l) {b:BlockS} (h:b.ok):BlockK b (blockF l b):=by
 have hi:∀ y∈(blockF l b).ins,∃ x∈b.ins,InsK x y:=insFs_ok hl h.ins
 refine ⟨⟨?_,fun y hy=>?_,?_⟩,insFs_length _ _,hi⟩
 ·show (insFs l b.ins).length≤_
  rw [insFs_length];exact h.n
 ·obtain ⟨x,_,hk⟩:=hi y hy
  exact hk.1
 ·exact termF_ok (stepsF_fit _ _ hl h.ins) h.term
theorem blockK_self {b:BlockS} (h:b.ok):BlockK b b:=⟨h,rfl,fun y hy=>⟨y,hy,h.ins y hy,Nat.le_refl _⟩⟩
theorem fold_keepK {f f':FuncS} (hpos:0 < f.blocks.length) (ht:tgtOK f.blocks) (hok:f.ok) (h:FoldR' f f'):f'.name=f.name∧f'.params=f.params∧f'.regs=f.regs∧f'.slots=f.slots∧f'.secret=f.secret∧f'.blocks.length=f.blocks.length∧∀ (k:Nat) (b':BlockS),f'.blocks[k]?=some b'→∃ b,f.blocks[k]?=some b∧BlockK b b':=by
 obtain ⟨bl',⟨hr⟩,rfl⟩:=h
 rename_i s
 have hx:∀ b∈f.blocks,∀ x∈b.ins,x.ok:=fun b hb=>(hok.blocks b hb).ins
 have g:=solRun_good ht hx hr (sol0_ok hpos f.regs) (sol0_good hpos f.regs)
 obtain ⟨i,_⟩:=solRun_ok ht hr (sol0_ok hpos f.regs)
 refine ⟨rfl,rfl,rfl,rfl,rfl,foldB_length _ _ _,fun k b' hb'=>?_⟩
 obtain ⟨b,l,hb,hl,hh⟩:=foldS_at i hb'
 have hbo:=hok.blocks b (List.mem_of_getElem? hb)
 refine ⟨b,hb,?_⟩
 rcases hh with ⟨_,e⟩|⟨_,e⟩
 ·rw [e];exact blockF_ok (g.fit l (List.mem_of_getElem? hl)) hbo
 ·rw [e];exact blockK_self hbo
structure FuncK (f f':FuncS):Prop where
 name:f'.name=f.name
 params:f'.params=f.params
 regs:f'.regs=f.regs
 slots:f'.slots=f.slots
 secret:f'.secret=f.secret
 len:f'.blocks.length=f.blocks.length
 at_:∀ (k:Nat) (b':BlockS),f'.blocks[k]?=some b'→∃ b,f.blocks[k]?=some b∧BlockK b b'
theorem FuncK.ok {f f':FuncS} (h:FuncK f f') (hok:f.ok):f'.ok:=by
 refine ⟨by rw [h.params];exact hok.params,by rw [h.regs];exact hok.regs,by rw [h.secret];exact hok.nsec,by rw [h.slots];exact hok.nslots,by rw [h.slots];exact hok.slots,by rw [h.len];exact hok.nblocks,fun b' hb'=>?_⟩
 obtain ⟨k,hk⟩:=List.mem_iff_getElem?.1 hb'
 obtain ⟨b,_,hb⟩:=h.at_ k b' hk
 exact hb.1
theorem FuncK.sizes {f f':FuncS} (h:FuncK f f'):fsizeS f'.blocks=fsizeS f.blocks:=by
 unfold fsizeS
 congr 1
 apply List.ext_getElem?
 intro k
 rw [List.getElem?_map,List.getElem?_map]
 cases hk:f'.blocks[k]? with
 | none =>
  have:f.blocks[k]?=none:=by rw [List.getElem?_eq_none_iff] at hk ⊢;have:=h.len;omega
  rw [this]
 | some b' =>
  obtain ⟨b,hb,hK⟩:=h.at_ k b' hk
  rw [hb]
  simp only [Option.map_some,hK.2.1]
theorem turn_at {R:FuncS→FuncS→Prop} {p q:ProgS} (h:TurnP R p q) {f':FuncS} (hf':f'∈q.funcs):∃ f∈p.funcs,R f f':=by
 obtain ⟨k,hk⟩:=List.mem_iff_getElem?.1 hf'
 have hl:=(List.getElem?_eq_some_iff.1 hk).1
 obtain ⟨f,hf⟩:∃ f,p.funcs[k]?=some f:=⟨_,List.getElem?_eq_getElem (by have:=h.len;omega)⟩
 exact ⟨f,List.mem_of_getElem? hf,h.rel k f f' hf hk⟩
theorem turn_size {R:FuncS→FuncS→Prop} {p q:ProgS} (h:TurnP R p q) (hR:∀ f f',f∈p.funcs→R f f'→fsizeS f'.blocks=fsizeS f.blocks):psizeL q.funcs=psizeL p.funcs:=by
 unfold psizeL
 congr 1
 apply List.ext_getElem?
 intro k
 rw [List.getElem?_map,List.getElem?_map]
 cases hk:q.funcs[k]? with
 | none =>
  have:p.funcs[k]?=none:=by rw [List.getElem?_eq_none_iff] at hk ⊢;have:=h.len;omega
  rw [this]
 | some f' =>
  have hl:=(List.getElem?_eq_some_iff.1 hk).1
  obtain ⟨f,hf⟩:∃ f,p.funcs[k]?=some f:=⟨_,List.getElem?_eq_getElem (by have:=h.len;omega)⟩
  rw [hf]
  simp only [Option.map_some,hR f f' (List.mem_of_getElem? hf) (h.rel k f f' hf hk)]
theorem keeps_of {R:FuncS→FuncS→Prop} {p q:ProgS} (h:TurnP R p q) (hok:p.ok) (hl:LightP p) (hS:PassSim p q) (hr:rightP q=true) (hK:∀ f f',f∈p.funcs→R f f'→FuncK f f'):KeepsP p q:=by
 have hat:∀ f'∈q.funcs,∃ f∈p.funcs,FuncK f f':=fun f' hf'=>by
  obtain ⟨f,hf,hR⟩:=turn_at h hf'
  exact ⟨f,hf,hK f f' hf hR⟩
 refine ⟨⟨by rw [h.len];exact hok.nfuncs,fun f' hf'=>?_,by rw [h.glob];exact hok.nglobs,by rw [h.glob];exact hok.globs,by rw [h.data];exact hok.data,by rw [h.main];exact hok.main⟩,⟨by rw [h.len];exact hl.nf,by rw [h.glob];exact hl.ng,by rw [h.glob];exact hl.np,fun f' hf'=>?_⟩,hr,h.main,h.data,by rw [h.glob],h.len,Nat.le_of_eq (turn_size h fun f f' hf hR=>(hK f f' hf hR).sizes),fun i f f' hf hf'=>?_,hS.run,fun N a b c d fuel=>run_two hS N a b c d fuel⟩
 ·obtain ⟨f,hf,hk⟩:=hat f' hf'
  exact hk.ok (hok.funcs f hf)
 ·obtain ⟨f,hf,hk⟩:=hat f' hf'
  obtain ⟨h1,h2,h3⟩:=hl.f f hf
  refine ⟨by rw [hk.regs];exact h1,by rw [hk.slots];exact h2,fun b' hb'=>?_⟩
  obtain ⟨k,hkb⟩:=List.mem_iff_getElem?.1 hb'
  obtain ⟨b,hb,hB⟩:=hk.at_ k b' hkb
  obtain ⟨g1,g2⟩:=h3 b (List.mem_of_getElem? hb)
  refine ⟨by rw [hB.2.1];exact g1,fun y hy=>?_⟩
  obtain ⟨x,hx,hX⟩:=hB.2.2 y hy
  exact Nat.le_trans hX.2 (g2 x hx)
 ·have:=hK f f' (List.mem_of_getElem? hf) (h.rel i f f' hf hf')
  exact ⟨this.name,this.params⟩
theorem fold_keeps {p q:ProgS} (h:TurnP FoldR' p q) (hok:p.ok) (hl:lightP p=true) (hr:rightP p=true):KeepsP p q:=by
 have hLF:=light_right hok hl hr
 have hL:=lightP_all hl
 obtain ⟨hS,hq⟩:=fold_pass h hok hr (by have:=hL.nf;omega) fun f hf=>(hLF f hf).1.tgt
 refine keeps_of h hok hL hS hq fun f f' hf hR=>?_
 obtain ⟨h1,h2,h3,h4,h5,h6,h7⟩:=fold_keepK (hLF f hf).1.pos (hLF f hf).1.tgt (hok.funcs f hf) hR
 exact ⟨h1,h2,h3,h4,h5,h6,h7⟩
end Go.Proofs.YtjhloakacicdiaaDoor
