/-
  What the functions that the law reaches compute,told by plain data;it holds of programs that pass the check of right form and are light.
-/
import Derived.Test.YtjhloakacicdiaaDoorR1
import Derived.Test.YtjhloakacicdiaaDoorR10
import Derived.Test.YtjhloakacicdiaaDoorR14
import Derived.Test.YtjhloakacicdiaaDoorR15
import Derived.Test.YtjhloakacicdiaaDoorR19
import Derived.Test.YtjhloakacicdiaaDoorR4
import Derived.Test.YtjhloakacicdiaaDoorS2
set_option linter.unusedVariables false
set_option linter.unusedSimpArgs false
namespace Go.Proofs.YtjhloakacicdiaaDoor
open Go.AH
section
variable {p q:ProgS} {cl cl':RunS→List Int→InsS→Int × RunS} {at_:List Int} {s:RunS} {regs:List Int} {x:InsS}
end
structure COK (regs:Int) (c:CseS):Prop where
 m:MOK c.m
 row:∀ r∈c.m.rows,∀ k a,r.2=rowM k a→okA regs a
 w:∀ k∈c.w,fitI k.2∧-1≤k.2∧k.2 < regs
section
variable {regs:Int} {c:CseS}
end
section
variable {p q:ProgS} {f:FuncS}
end
attribute [local irreducible] W RS
def fit13I (d:Int):InsS:=⟨5,d,⟨0,0⟩,⟨0,0⟩,0,false,false,0,0,[]⟩
def fit13B:List BlockS:=[⟨[fit13I 1,fit13I 2],⟨3,0,⟨2,0⟩,⟨0,0⟩,0,0⟩⟩]
def fit13C:List BlockS:=[⟨[fit13I 1,plainI 2 2 ⟨1,0⟩],⟨3,0,⟨1,0⟩,⟨0,0⟩,0,0⟩⟩]
theorem fit13_eq:cseF (fit12F fit13B)=fit12F fit13C:=by kernel_rfl
theorem fit13_ok:∀ f∈(fit12P fit13B).funcs,(OkL f.regs f.blocks∧InsOK f)∧CopyOK f:=by
 have hok:(fit12P fit13B).ok:=ProgS.ok_of (by kernel_rfl)
 have hl:lightP (fit12P fit13B)=true:=by kernel_rfl
 have hr:rightP (fit12P fit13B)=true:=by kernel_rfl
 intro f hf
 have h1:=light_right hok hl hr f hf
 exact ⟨⟨h1.1,right_ins hok hr f hf⟩,h1.2⟩
set_option maxRecDepth 100000 in
theorem fit13_tf (h:Hp):TF Tryd.prog 26 ⟨[]⟩ h (.bool true) h:=by
 refine TF.exact (fn:=Tryd.f26) (c:=(Tryd.f26.body.getD .skip)) Tryd.func26 (by kernel_rfl) Tryd.ntmps26 (by kernel_rfl) (fun s0=>⟨Nat.le_refl _,by simp,fun i b hb=>⟨s0.dom i b hb,s0.bd i b hb⟩⟩) fun π s0=>?_
 conv=>arg 2;whnf
 ((with_reducible apply W.seq);repeat (first|refine Y15 ?_|refine Y0 ?_|refine Y1 ?_|refine Y13 ?_))
 ((with_reducible apply W.seq);repeat (first|refine Y3n ?_|refine Yi ?_|refine Y4 ?_|refine Yf ?_|refine Y11 ?_|refine Y0 ?_|refine Y1 ?_|refine Y13 ?_))
 refine W.absorbX fun B0 π0 a0=>?_
 have m0:B0.m (π 0)=some ⟨⟨insC (fit13I 1) none 0++insC (fit13I 2) none 0⟩,58⟩:=a0.loc 0 (by decide:(0:Nat) < 4)
 have m1:B0.m (π 1)=some ⟨⟨[.slice (some ⟨π 0,0,none⟩) 2 2,.int .i64 3,.int .i64 0,.int .i64 2,.int .i64 0,.int .i64 0,.int .i64 0,.int .i64 0,.int .i64 0]⟩,50⟩:=a0.loc 1 (by decide:(1:Nat) < 4)
 have m2:B0.m (π 2)=some ⟨⟨[.string ⟨#[109,97,105,110]⟩,.int .i64 0,.slice none 0 0,.int .i64 3,.slice none 0 0,.slice (some ⟨π 1,0,none⟩) 1 1]⟩,37⟩:=a0.loc 2 (by decide:(2:Nat) < 4)
 have m3:B0.m (π 3)=some ⟨⟨progC (fit12P fit13B) (some ⟨π 2,0,none⟩) 1 none 0⟩,25⟩:=a0.loc 3 (by decide:(3:Nat) < 4)
 have hs:SlAt B0 (some ⟨π 2,0,none⟩) 6 (fit12P fit13B).funcs (funcRS B0):=by
  refine slat_one m2 (Nat.le_refl _) ⟨none,0,none,0,some ⟨π 1,0,none⟩,1,[],rfl,rfl,SlAt.nil,SlAt.nil,?_⟩
  refine slat_one m1 (Nat.le_refl _) ⟨some ⟨π 0,0,none⟩,2,rfl,?_⟩
  refine ⟨fun i y hy=>?_⟩
  match i,hy with
  | 0,hy=>simp at hy;subst hy;exact ⟨π 0,0,_,_,rfl,m0,by decide,none,0,rfl,SlAt.nil⟩
  | 1,hy=>simp at hy;subst hy;exact ⟨π 0,0,_,_,rfl,m0,by decide,none,0,rfl,SlAt.nil⟩
  | i+2,hy=>simp at hy
 ((with_reducible apply W.seq);repeat (first|((with_reducible apply RS.callEx);(iterate 3 exact rfl);intro B1 hB1;refine ⟨_,cse_prog_ex (fit12P fit13B) fit13_ok (by decide) B1 (π 3) 25 _ _ _ _ (hB1.up _ _ m3) (hs.mono hB1.up fun _ _ h=>funcRS_mono hB1.up h),?_⟩;rintro v H2 π2 ⟨ob,A,c,fs,rfl,hO,hS,hl,hR,ho,hlo⟩ sH2 hle2)|refine Y15 ?_|refine Y0 ?_|refine Y1 ?_|refine Y13 ?_))
 have hl:fs.length=1:=hl
 obtain ⟨f',rfl⟩:∃ f',fs=[f']:=by
  match fs,hl with
  | [f'],_=>exact ⟨f',rfl⟩
 have hf':f'=fit12F fit13C:=(hR 0 _ f' rfl rfl).trans fit13_eq
 subst hf'
 obtain ⟨gb,go,gcs,ge,rfl,hG,hGl,G1,g1,G2,g2,G3,g3,sec,hGv,_,_,_,hGB⟩:=hS.get 0 _ rfl
 have hG5:gcs[go+0 * 6+5]?=some (.slice G3 1 g3):=take_nth hGv (j:=5) rfl
 obtain ⟨bb,bo,bcs,be,rfl,hB,hBl,Q1,q1,hBv,hBI⟩:=hGB.get 0 _ rfl
 have hB0:bcs[bo+0 * 9+0]?=some (.slice Q1 2 q1):=take_nth hBv (j:=0) rfl
 obtain ⟨ib,io,ics,ie,rfl,hI,hIl,J1,j1,hIv,_⟩:=hBI.get 1 _ rfl
 have hI0:ics[io+1 * 12+0]?=some (.int .i64 2):=take_nth hIv (j:=0) rfl
 have hGn:=sH2.dom _ _ hG
 have hBn:=sH2.dom _ _ hB
 have hIn:=sH2.dom _ _ hI
 have hOn:=sH2.dom _ _ hO
 have hO:H2.m ob=some ⟨⟨[.slice (some ⟨gb,go,none⟩) 1 c,.slice none 0 0,.int .i64 0,.int .i64 0]⟩,25⟩:=hO
 repeat (first|((with_reducible apply RS.nePtrNil);iterate 4 exact rfl)|((with_reducible apply RS.load1B);(iterate 3 exact rfl);first|exact hO;exact hOn;exact rfl|exact hG;exact hGn;exact hG5|exact hB;exact hBn;exact hB0|exact hI;exact hIn;exact hI0)|((with_reducible apply (RS.indexAddrS (n:=0)));(iterate 5 exact rfl);exact Nat.succ_pos _)|((with_reducible apply (RS.indexAddrS (n:=1)));(iterate 5 exact rfl);exact Nat.succ_lt_succ (Nat.succ_pos _))|refine Yj ?_|refine Yk ?_|refine Y3 ?_|refine Ym ?_|refine Y0 ?_|refine Y1j ?_|refine Y1 ?_)
 exact endsK_ret _ (.cons (.tmp rfl) .nil) fun B' a=>⟨rfl,fun j x hj=>a.up _ _ ((hB1.oldH.trans ho).up a0.dom _ _ (a0.up _ _ hj))⟩
theorem wrap_i (n:Int):IntKind.i64.wrap n=if 9223372036854775808≤n % 18446744073709551616 then n % 18446744073709551616 - 18446744073709551616 else n % 18446744073709551616:=by simp [IntKind.wrap,IntKind.bits,IntKind.signed]
theorem wrap_b (n:Int):IntKind.u8.wrap n=n % 256:=by simp [IntKind.wrap,IntKind.bits,IntKind.signed]
abbrev bv64 (x:Int):BitVec 64:=BitVec.ofInt 64 x
theorem bv_nat (x:Int):(bv64 x).toNat=(x % 18446744073709551616).toNat:=by
 rw [BitVec.toNat_ofInt];rfl
theorem bv_wrap (x:Int):bv64 (IntKind.i64.wrap x)=bv64 x:=by
 apply BitVec.eq_of_toNat_eq
 rw [bv_nat,bv_nat]
 congr 1
 rw [wrap_i]
 split<;>omega
theorem bv_inj {a b:Int} (ha:fitI a) (hb:fitI b) (h:bv64 a=bv64 b):a=b:=by
 have h:=congrArg BitVec.toNat h
 rw [bv_nat,bv_nat] at h
 obtain ⟨a1,a2⟩:=ha
 obtain ⟨b1,b2⟩:=hb
 omega
theorem bv_toNat (x:BitVec 64):bv64 (x.toNat:Int)=x:=by
 apply BitVec.eq_of_toNat_eq
 rw [bv_nat]
 have:=x.isLt
 omega
theorem bv_shl (b:Nat) (k:Nat):bv64 ((b:Int) * 2 ^ k)=bv64 (b:Int) <<< k:=by
 apply BitVec.eq_of_toNat_eq
 rw [BitVec.toNat_shiftLeft,bv_nat,bv_nat,Nat.shiftLeft_eq]
 have e1:((b:Int) * 2 ^ k % 18446744073709551616).toNat=b * 2 ^ k % 18446744073709551616:=by
  have:((b:Int) * 2 ^ k % 18446744073709551616)=((b * 2 ^ k % 18446744073709551616:Nat):Int):=by rw [Int.natCast_emod,Int.natCast_mul,Int.natCast_pow];rfl
  rw [this,Int.toNat_natCast]
 have e2:((b:Int) % 18446744073709551616).toNat=b % 18446744073709551616:=by omega
 rw [e1,e2]
 show _=(b % 18446744073709551616 * 2 ^ k) % 18446744073709551616
 rw [Nat.mod_mul_mod]
theorem bv_step (v:Int) (b:Nat) {i:Nat} (hi:i < 8):bv64 (loadStep v (b:Int) i)=bv64 v ||| (bv64 (b:Int) <<< (8 * i)):=by
 unfold loadStep
 rw [bv_wrap]
 have e:(min (8 * (i:Int)).toNat IntKind.i64.bits)=8 * i:=by
  show min (8 * (i:Int)).toNat 64=8 * i
  omega
 rw [e]
 show bv64 ((BitVec.ofInt 64 v ||| BitVec.ofInt 64 (IntKind.i64.wrap (IntKind.i64.wrap (b:Int) * 2 ^ (8 * i)))).toNat:Int)=_
 rw [bv_toNat]
 congr 1
 show bv64 (IntKind.i64.wrap _)=_
 rw [bv_wrap,← bv_shl]
 apply BitVec.eq_of_toNat_eq
 rw [bv_nat,bv_nat]
 congr 1
 rw [Int.mul_emod,Int.mul_emod (b:Int)]
 congr 2
 rw [wrap_i]
 split<;>omega
theorem bv_bit (b:Nat) {j:Nat} (hj:j < 64):(bv64 (b:Int)).getLsbD j=b.testBit j:=by
 unfold BitVec.getLsbD
 rw [bv_nat]
 have e:((b:Int) % 18446744073709551616).toNat=b % 2 ^ 64:=by
  show _=b % 18446744073709551616
  omega
 rw [e,Nat.testBit_mod_two_pow,decide_eq_true hj,Bool.true_and]
theorem load_bit {dl:List Int} {o:Nat} {f:Nat→Nat}:∀ n,n≤8→(∀ i,i < n→dl.getD (o+i) 0=(f i:Int)∧f i < 256)→∀ j,j < 64→(bv64 (loadV dl o n)).getLsbD j=(decide (j < 8 * n) && (f (j / 8)).testBit (j % 8))
 | 0,_,_,j,hj=>by
  show (bv64 0).getLsbD j=_
  simp
 | n+1,hn,h,j,hj=>by
  rw [loadV,(h n (by omega)).1,bv_step _ _ (by omega),BitVec.getLsbD_or,load_bit n (by omega) (fun i hi=>h i (by omega)) j hj,BitVec.getLsbD_shiftLeft]
  by_cases h1:j < 8 * n
  ·have h2:j < 8 * (n+1):=by omega
   simp [h1,h2]
  ·by_cases h2:j < 8 * (n+1)
   ·have e1:j / 8=n:=by omega
    have e2:j - 8 * n=j % 8:=by omega
    rw [e1,e2,bv_bit _ (by omega)]
    simp [h1,h2,hj]
   ·have hz:(bv64 (f n:Int)).getLsbD (j - 8 * n)=false:=by
     rw [bv_bit _ (by omega)]
     exact Nat.testBit_lt_two_pow (Nat.lt_of_lt_of_le (h n (by omega)).2 (by
      show 2 ^ 8≤2 ^ (j - 8 * n)
      exact Nat.pow_le_pow_right (by decide) (by omega)))
    rw [hz]
    simp [h1,h2]
theorem store_nat {v:Int} {i:Nat} (hi:i < 8):storeByte v i=(((bv64 v).toNat / 2 ^ (8 * i) % 256:Nat):Int):=by
 unfold storeByte
 have e:(min (8 * (i:Int)).toNat IntKind.i64.bits)=8 * i:=by
  show min (8 * (i:Int)).toNat 64=8 * i
  omega
 rw [e,Int.fdiv_eq_ediv_of_nonneg _ (Int.le_of_lt (Int.pow_pos (by decide))),bv_nat]
 rw [wrap_b]
 have hc:i=0∨i=1∨i=2∨i=3∨i=4∨i=5∨i=6∨i=7:=by omega
 rcases hc with e|e|e|e|e|e|e|e
 all_goals subst e
 all_goals simp only [Nat.reduceMul,Nat.reducePow,Int.reducePow]
 all_goals omega
theorem store_bit {v:Int} {i r:Nat} (hi:i < 8) (hr:r < 8):((bv64 v).toNat / 2 ^ (8 * i) % 256).testBit r=(bv64 v).getLsbD (8 * i+r):=by
 show ((bv64 v).toNat / 2 ^ (8 * i) % 2 ^ 8).testBit r=_
 rw [Nat.testBit_mod_two_pow,Nat.testBit_div_two_pow,decide_eq_true hr,Bool.true_and]
 unfold BitVec.getLsbD
 rw [Nat.add_comm]
theorem load_eq {dl:List Int} {o:Nat} {v:Int} (hv:fitI v) (h:∀ i,i < 8→dl.getD (o+i) 0=storeByte v i):loadV dl o 8=v:=by
 refine bv_inj (fit_load 8) hv ?_
 apply BitVec.eq_of_getLsbD_eq
 intro j hj
 rw [load_bit (f:=fun i=>(bv64 v).toNat / 2 ^ (8 * i) % 256) 8 (Nat.le_refl _) (fun i hi=>⟨by rw [h i hi,store_nat hi],Nat.mod_lt _ (by decide)⟩) j hj,decide_eq_true (by omega:j < 8 * 8),Bool.true_and,store_bit (by omega) (by omega)]
 congr 1
 omega
theorem load_mix {dl:List Int} {o k:Nat} {v w u:Int} (hk:k < 8) (hu:fitI u) (h:∀ i,i < 8→i≠k→dl.getD (o+i) 0=storeByte v i) (h2:dl.getD (o+k) 0=storeByte w 0) (hb:∀ j,j < 64→(bv64 u).getLsbD j=if j / 8=k then (bv64 w).getLsbD (j % 8) else (bv64 v).getLsbD j):loadV dl o 8=u:=by
 refine bv_inj (fit_load 8) hu ?_
 apply BitVec.eq_of_getLsbD_eq
 intro j hj
 rw [load_bit (f:=fun i=>if i=k then (bv64 w).toNat / 2 ^ (8 * 0) % 256 else (bv64 v).toNat / 2 ^ (8 * i) % 256) 8 (Nat.le_refl _) (fun i hi=>?_) j hj,decide_eq_true (by omega:j < 8 * 8),Bool.true_and,hb j hj]
 ·by_cases e:j / 8=k
  ·rw [if_pos e,if_pos e,store_bit (by decide) (by omega)]
   congr 1
   omega
  ·rw [if_neg e,if_neg e,store_bit (by omega) (by omega)]
   congr 1
   omega
 ·by_cases e:i=k
  ·subst e
   rw [if_pos rfl]
   exact ⟨by rw [h2,store_nat (by decide)],Nat.mod_lt _ (by decide)⟩
  ·rw [if_neg e]
   exact ⟨by rw [h i hi e,store_nat hi],Nat.mod_lt _ (by decide)⟩
def slotI:InsS:=⟨24,0,⟨0,0⟩,⟨0,0⟩,0,false,false,0,0,[]⟩
def storI (n off size:Int):InsS:=⟨27,-1,⟨0,0⟩,⟨-1,n⟩,size,false,false,0,off,[]⟩
def loadI (d:Int):InsS:=⟨26,d,⟨0,0⟩,⟨0,0⟩,8,false,false,0,0,[]⟩
def outI (r:Int):InsS:=⟨30,-1,⟨r,0⟩,⟨0,0⟩,0,false,false,0,0,[]⟩
def clT:TermS:=⟨3,0,⟨-1,0⟩,⟨0,0⟩,0,0⟩
def clF (l:List InsS):FuncS:=⟨⟨#[109,97,105,110]⟩,0,0,3,[8],[⟨l,clT⟩]⟩
def clP (l:List InsS):ProgS:=⟨[clF l],[],0,0⟩
def clI (st:Bool) (n m off:Int):List InsS:=match st with
 | true=>[slotI,storI n 0 8,loadI 1,storI m off 1,loadI 2,outI 1,outI 2]
 | false=>[slotI,storI n 0 8,loadI 1,loadI 2,outI 1,outI 2]
def clC (st:Bool) (n m off:Int):List InsS:=match st with
 | true=>[slotI,storI n 0 8,loadI 1,storI m off 1,loadI 2,outI 1,outI 2]
 | false=>[slotI,storI n 0 8,loadI 1,plainI 2 2 ⟨1,0⟩,outI 1,outI 1]
theorem cl_cse (st:Bool) (n m off:Int):cseF (clF (clI st n m off))=clF (clC st n m off):=by
 cases st<;>rfl
def C0 (o:List Int) (l:List LeakS) (st:Int) (stk:List Int):RunS:={ fin:=0,exit:=0,out:=o,leaks:=l,steps:=st,fuel:=50,data:=[],stack:=stk,sp:=134217720,deep:=1 }
section
variable {p:ProgS} {cl:RunS→List Int→InsS→Int × RunS} {o:List Int} {l:List LeakS} {st:Int} {stk:List Int} {x y:Int}
theorem c_step (h:st < 50):stepS (C0 o l st stk)=C0 o l (st+1) stk:=by
 unfold stepS C0
 rw [if_pos rfl,if_neg (by show ¬ st ≥ 50;omega)]
theorem i64_at {n:Int} (h0:-9223372036854775808≤n) (h1:n≤9223372036854775807):i64 n=n:=wrap64_fit h0 h1
theorem c_slot (h:st < 50):insS p cl [134217720] (C0 o l st stk) [0,x,y] slotI=(C0 o l (st+1) stk,[134217720,x,y]):=by
 unfold insS
 rw [c_step h]
 rfl
theorem c_store {n off:Int} {sz:Nat} (h:st < 50) (hl:stk.length=416000) (ho:0≤off) (hs:off+sz≤8):insS p cl [134217720] (C0 o l st stk) [134217720,x,y] (storI n off sz)=(C0 o (⟨3,134217720+off,0⟩::l) (st+1) (storeV stk (415992+off.toNat) n sz),[134217720,x,y]):=by
 unfold insS
 rw [c_step h]
 rw [show (storI n off sz).op=27 from rfl]
 rw [if_pos (show (C0 o l (st+1) stk).fin=0 from rfl),if_neg (show ¬ ((27:Int)=1∨(27:Int)=2) by decide),if_neg (show ¬ (twoS 27=true) by decide),if_neg (show ¬ (27:Int)=22 by decide),if_neg (show ¬ (27:Int)=23 by decide),if_neg (show ¬ (27:Int)=24 by decide),if_neg (show ¬ (27:Int)=25 by decide),if_neg (show ¬ (27:Int)=26 by decide),if_pos (show (27:Int)=27 from rfl)]
 have e1:i64 (argS [134217720,x,y] (storI n off sz).a+(storI n off sz).off)=134217720+off:=by
  show i64 (134217720+off)=_
  exact i64_at (by omega) (by omega)
 have e2:(storI n off sz).size.toNat=sz:=by show ((sz:Int)).toNat=sz;omega
 have e3:argS [134217720,x,y] (storI n off sz).b=n:=rfl
 rw [e1,e2,e3]
 congr 1
 unfold storeS
 rw [if_neg (by unfold inData C0;show ¬ (65536≤134217720+off∧134217720+off≤65536+((0:Nat):Int) - (sz:Int));omega),if_pos (by unfold inStack C0;show 134217728 - (stk.length:Int)≤134217720+off∧134217720+off≤134217728 - (sz:Int);omega)]
 have e4:(134217720+off - (134217728 - (stk.length:Int))).toNat=415992+off.toNat:=by omega
 show ({ leakS (C0 o l (st+1) stk) ⟨3,134217720+off,0⟩ with stack:=storeV stk (134217720+off - (134217728 - (stk.length:Int))).toNat n sz }:RunS)=_
 rw [e4]
 rfl
theorem c_load {v:Int} (d:Int) (h:st < 50) (hl:stk.length=416000) (hv:loadV stk 415992 8=v):insS p cl [134217720] (C0 o l st stk) [134217720,x,y] (loadI d)=(C0 o (⟨2,134217720,0⟩::l) (st+1) stk,setReg [134217720,x,y] d v):=by
 have e:loadS (C0 o l (st+1) stk) 134217720 8 false=(v,C0 o (⟨2,134217720,0⟩::l) (st+1) stk):=by
  unfold loadS
  rw [if_neg (by unfold inData C0;show ¬ ((65536:Int)≤134217720∧(134217720:Int)≤65536+((0:Nat):Int) - ((8:Nat):Int));omega),if_pos (by unfold inStack C0;show 134217728 - (stk.length:Int)≤134217720∧(134217720:Int)≤134217728 - ((8:Nat):Int);omega)]
  show (widenS (loadV stk (134217720 - (134217728 - (stk.length:Int))).toNat 8) 8 false,_)=_
  rw [show (134217720 - (134217728 - (stk.length:Int))).toNat=415992 by omega,hv]
  rfl
 unfold insS
 rw [c_step h]
 rw [show (loadI d).op=26 from rfl]
 rw [if_pos (show (C0 o l (st+1) stk).fin=0 from rfl),if_neg (show ¬ ((26:Int)=1∨(26:Int)=2) by decide),if_neg (show ¬ (twoS 26=true) by decide),if_neg (show ¬ (26:Int)=22 by decide),if_neg (show ¬ (26:Int)=23 by decide),if_neg (show ¬ (26:Int)=24 by decide),if_neg (show ¬ (26:Int)=25 by decide),if_pos (show (26:Int)=26 from rfl)]
 have e1:i64 (argS [134217720,x,y] (loadI d).a+(loadI d).off)=134217720:=by
  show i64 (134217720+0)=_
  exact i64_at (by omega) (by omega)
 rw [e1]
 show ((loadS (C0 o l (st+1) stk) 134217720 8 false).2,setReg [134217720,x,y] d (loadS (C0 o l (st+1) stk) 134217720 8 false).1)=_
 rw [e]
theorem c_out {regs:List Int} {r:Int} (h:st < 50) (ho:o.length < 10000):insS p cl [134217720] (C0 o l st stk) regs (outI r)=(C0 (argS regs ⟨r,0⟩::o) l (st+1) stk,regs):=by
 unfold insS
 rw [c_step h]
 rw [show (outI r).op=30 from rfl]
 rw [if_pos (show (C0 o l (st+1) stk).fin=0 from rfl),if_neg (show ¬ ((30:Int)=1∨(30:Int)=2) by decide),if_neg (show ¬ (twoS 30=true) by decide),if_neg (show ¬ (30:Int)=22 by decide),if_neg (show ¬ (30:Int)=23 by decide),if_neg (show ¬ (30:Int)=24 by decide),if_neg (show ¬ (30:Int)=25 by decide),if_neg (show ¬ (30:Int)=26 by decide),if_neg (show ¬ (30:Int)=27 by decide),if_pos (show (30:Int)=30 from rfl),if_neg (by show ¬ o.length=10000;omega)]
 rfl
theorem c_copy (h:st < 50):insS p cl [134217720] (C0 o l st stk) [134217720,x,y] (plainI 2 2 ⟨1,0⟩)=(C0 o l (st+1) stk,[134217720,x,x]):=by
 unfold insS
 rw [c_step h]
 rfl
theorem c_cons {ins:RunS→List Int→InsS→RunS × List Int} {s t:RunS} {regs rg:List Int} {i:InsS} {is:List InsS} (h:ins s regs i=(t,rg)) (ht:t.fin=0):runIns ins (i::is) s regs=runIns ins is t rg:=by
 rw [runIns,h,if_pos ht]
end
theorem cl_main {is:List InsS} {k:Nat} {o:List Int} {l:List LeakS} {st:Int} {stk regs:List Int} (h:runIns (insS (clP is) (callsS (clP is) (callK (clP is) (k+1) 100)) [134217720]) is (C0 [] [] 0 (List.replicate 416000 0)) [0,0,0]=(C0 o l st stk,regs)) (hs:st < 50) :
 runS (clP is) (k+1) [] [] 50={ C0 o l (st+1) stk with sp:=134217728,deep:=0 }:=by
 have hd:dataS (clP is) [] []=[]:=rfl
 have ha:rowAt 134217728 [8] 1=[134217720]:=by decide +kernel
 have hsp:spAt 134217728 [8] 1=134217720:=by decide +kernel
 unfold runS
 rw [hd]
 generalize List.replicate 416000 (0:Int)=R at h ⊢
 have e0:blocksS (insS (clP is) (callsS (clP is) (callK (clP is) (k+1) 100)) [134217720]) (clF is) (k+1) 0 (C0 [] [] 0 R) [0,0,0]=(0,C0 o l (st+1) stk,regs):=by
  rw [blocksS,if_pos (show (C0 [] [] 0 R).fin=0 from rfl)]
  show (if (runIns (insS (clP is) (callsS (clP is) (callK (clP is) (k+1) 100)) [134217720]) is (C0 [] [] 0 R) [0,0,0]).1.fin=0 then _ else _)=_
  rw [h,if_pos (show (C0 o l st stk).fin=0 from rfl)]
  dsimp only
  rw [c_step hs,if_pos (show (C0 o l (st+1) stk).fin=0 from rfl)]
  rfl
 have e1:callK (clP is) (k+1) 101 (startS 50 [] R) 0 []=(0,{ C0 o l (st+1) stk with sp:=134217728,deep:=0 }):=by
  have e2:spDone (startS 50 [] R) (clF is)=C0 [] [] 0 R:=by
   show ({ startS 50 [] R with deep:=0+1,sp:=spAt 134217728 [8] 1 }:RunS)=_
   rw [hsp];rfl
  rw [callK,if_neg (show ¬ 100 < (startS 50 [] R).deep+1 by show ¬ 100 < (0:Int)+1;decide)]
  show ((blocksS (insS (clP is) (callsS (clP is) (callK (clP is) (k+1) 100)) (rowAt 134217728 [8] 1)) (clF is) (k+1) 0 (spDone (startS 50 [] R) (clF is)) (regsS (clF is) [])).1,
   { (blocksS (insS (clP is) (callsS (clP is) (callK (clP is) (k+1) 100)) (rowAt 134217728 [8] 1)) (clF is) (k+1) 0 (spDone (startS 50 [] R) (clF is)) (regsS (clF is) [])).2.1 with sp:=134217728,deep:=(blocksS (insS (clP is) (callsS (clP is) (callK (clP is) (k+1) 100)) (rowAt 134217728 [8] 1)) (clF is) (k+1) 0 (spDone (startS 50 [] R) (clF is)) (regsS (clF is) [])).2.1.deep - 1 })=_
  rw [ha,e2,show regsS (clF is) []=[0,0,0] from rfl,e0]
  rfl
 show endS (callK (clP is) (k+1) 101 (startS 50 [] R) 0 [])=_
 rw [e1]
 rfl
theorem storeV_at (d:List Int) (o:Nat) (v:Int):∀ n,o+n≤d.length→∀ j,(storeV d o v n).getD j 0=if o≤j∧j < o+n then storeByte v (j - o) else d.getD j 0
 | 0,_,j=>by rw [storeV,if_neg (by omega)]
 | n+1,h,j=>by
  rw [storeV,List.getD_eq_getElem?_getD,List.getElem?_set]
  by_cases e:o+n=j
  ·subst e
   rw [if_pos rfl,if_pos (by rw [storeV_len];omega),if_pos (by omega),Nat.add_sub_cancel_left];rfl
  ·rw [if_neg e,← List.getD_eq_getElem?_getD,storeV_at d o v n (by omega) j]
   by_cases c:o≤j∧j < o+n
   ·rw [if_pos c,if_pos (by omega)]
   ·rw [if_neg c,if_neg (by omega)]
def clL (st:Bool) (off:Int):List LeakS:=match st with
 | true=>[⟨2,134217720,0⟩,⟨3,134217720+off,0⟩,⟨2,134217720,0⟩,⟨3,134217720,0⟩]
 | false=>[⟨2,134217720,0⟩,⟨3,134217720,0⟩]
theorem cl_run (st:Bool) (n m off u:Int) (k:Nat) (hn:fitI n) (ho:0≤off∧off≤7) (hu:fitI u) (h1:st=false→u=n) (h2:st=true→∀ j,j < 64→(bv64 u).getLsbD j=if j / 8=off.toNat then (bv64 m).getLsbD (j % 8) else (bv64 n).getLsbD j) :
 ∃ stk t,stk.length=416000∧0≤t∧t≤50∧runS (clP (clC st n m off)) (k+1) [] [] 50={ C0 [u,n] (clL st off) t stk with sp:=134217728,deep:=0 }:=by
 obtain ⟨R,hR⟩:∃ R,List.replicate 416000 (0:Int)=R:=⟨_,rfl⟩
 have hl:R.length=416000:=by rw [← hR,List.length_replicate]
 obtain ⟨S,hS⟩:∃ S,storeV R 415992 n 8=S:=⟨_,rfl⟩
 have hSl:S.length=416000:=by rw [← hS,storeV_len,hl]
 have hSg:∀ i,i < 8→S.getD (415992+i) 0=storeByte n i:=fun i hi=>by
  rw [← hS,storeV_at _ _ _ _ (by omega),if_pos (by omega),Nat.add_sub_cancel_left]
 have hv:loadV S 415992 8=n:=load_eq hn hSg
 have g1:∀ {p:ProgS} {cl:RunS→List Int→InsS→Int × RunS},insS p cl [134217720] (C0 [] [] 0 R) [0,0,0] slotI=(C0 [] [] 1 R,[134217720,0,0]):=c_slot (by decide)
 have g2:∀ {p:ProgS} {cl:RunS→List Int→InsS→Int × RunS},insS p cl [134217720] (C0 [] [] 1 R) [134217720,0,0] (storI n 0 8)=(C0 [] [⟨3,134217720,0⟩] 2 S,[134217720,0,0]):=fun {p cl}=>by
  have:=c_store (p:=p) (cl:=cl) (o:=[]) (l:=[]) (st:=1) (stk:=R) (x:=0) (y:=0) (n:=n) (off:=0) (sz:=8) (by decide) hl (by decide) (by decide)
  rw [show (0:Int).toNat=0 from rfl,Nat.add_zero,hS] at this
  exact this
 have g3:∀ {p:ProgS} {cl:RunS→List Int→InsS→Int × RunS},insS p cl [134217720] (C0 [] [⟨3,134217720,0⟩] 2 S) [134217720,0,0] (loadI 1)=(C0 [] [⟨2,134217720,0⟩,⟨3,134217720,0⟩] 3 S,[134217720,n,0]):=c_load 1 (by decide) hSl hv
 cases st with
 | false =>
  have hun:=h1 rfl
  subst hun
  refine ⟨S,7,hSl,by decide,by decide,cl_main (st:=6) (regs:=[134217720,u,u]) ?_ (by decide)⟩
  rw [hR]
  show runIns _ [slotI,storI u 0 8,loadI 1,plainI 2 2 ⟨1,0⟩,outI 1,outI 1] _ _=_
  rw [c_cons g1 rfl,c_cons g2 rfl,c_cons g3 rfl,c_cons (c_copy (by decide)) rfl,c_cons (c_out (by decide) (by decide)) rfl,c_cons (c_out (by decide) (by show 1 < 10000;decide)) rfl]
  rfl
 | true =>
  obtain ⟨T,hT⟩:∃ T,storeV S (415992+off.toNat) m 1=T:=⟨_,rfl⟩
  have hTl:T.length=416000:=by rw [← hT,storeV_len,hSl]
  have hTg:∀ j,T.getD j 0=if 415992+off.toNat≤j∧j < 415992+off.toNat+1 then storeByte m (j - (415992+off.toNat)) else S.getD j 0:=fun j=>by
   rw [← hT,storeV_at _ _ _ _ (by omega)]
  have hw:loadV T 415992 8=u:=by
   refine load_mix (k:=off.toNat) (v:=n) (w:=m) (by omega) hu (fun i hi hne=>?_) ?_ (h2 rfl)
   ·rw [hTg,if_neg (by omega)];exact hSg i hi
   ·rw [hTg,if_pos (by omega),Nat.sub_self]
  have g4:∀ {p:ProgS} {cl:RunS→List Int→InsS→Int × RunS},insS p cl [134217720] (C0 [] [⟨2,134217720,0⟩,⟨3,134217720,0⟩] 3 S) [134217720,n,0] (storI m off 1)=(C0 [] [⟨3,134217720+off,0⟩,⟨2,134217720,0⟩,⟨3,134217720,0⟩] 4 T,[134217720,n,0]):=fun {p cl}=>by
   have:=c_store (p:=p) (cl:=cl) (o:=[]) (l:=[⟨2,134217720,0⟩,⟨3,134217720,0⟩]) (st:=3) (stk:=S) (x:=n) (y:=0) (n:=m) (off:=off) (sz:=1) (by decide) hSl ho.1 (by omega)
   rw [hT] at this
   exact this
  have g5:∀ {p:ProgS} {cl:RunS→List Int→InsS→Int × RunS},insS p cl [134217720] (C0 [] [⟨3,134217720+off,0⟩,⟨2,134217720,0⟩,⟨3,134217720,0⟩] 4 T) [134217720,n,0] (loadI 2)=(C0 [] (clL true off) 5 T,[134217720,n,u]):=c_load 2 (by decide) hTl hw
  refine ⟨T,8,hTl,by decide,by decide,cl_main (st:=7) (regs:=[134217720,n,u]) ?_ (by decide)⟩
  rw [hR]
  show runIns _ [slotI,storI n 0 8,loadI 1,storI m off 1,loadI 2,outI 1,outI 2] _ _=_
  rw [c_cons g1 rfl,c_cons g2 rfl,c_cons g3 rfl,c_cons g4 rfl,c_cons g5 rfl,c_cons (c_out (by decide) (by decide)) rfl,c_cons (c_out (by decide) (by show 1 < 10000;decide)) rfl]
  rfl
def shV (off:Int):Nat:=min (8 * off).toNat 64
def wantV (n m off:Int):Int:=i64 ((bv64 (i64 ((bv64 n &&& ~~~(bv64 (i64 (255 * 2 ^ shV off)))).toNat:Int)) ||| bv64 (i64 (i64 ((bv64 m &&& bv64 255).toNat:Int) * 2 ^ shV off))).toNat:Int)
theorem bv_i64 (x:Int):bv64 (i64 x)=bv64 x:=bv_wrap x
theorem bits255 {j:Nat} (hj:j < 64):(bv64 255).getLsbD j=decide (j < 8):=by
 have:=bv_bit 255 hj
 rw [show bv64 255=bv64 ((255:Nat):Int) from rfl,this,show (255:Nat)=2 ^ 8 - 1 from rfl,Nat.testBit_two_pow_sub_one]
theorem want_bits {n m off:Int} (ho:0≤off∧off≤7):∀ j,j < 64→(bv64 (wantV n m off)).getLsbD j=if j / 8=off.toNat then (bv64 m).getLsbD (j % 8) else (bv64 n).getLsbD j:=by
 intro j hj
 have hk:shV off=8 * off.toNat:=by unfold shV;omega
 unfold wantV
 rw [bv_i64,bv_toNat,bv_i64,bv_toNat,bv_i64,bv_i64,hk]
 have hx:i64 ((bv64 m &&& bv64 255).toNat:Int)=(((bv64 m &&& bv64 255).toNat:Nat):Int):=by
  have h1:(bv64 m &&& bv64 255).toNat≤255:=by
   rw [BitVec.toNat_and]
   exact Nat.le_trans Nat.and_le_right (by decide)
  exact i64_at (by omega) (by omega)
 rw [hx,bv_shl,show (255:Int)=((255:Nat):Int) from rfl,bv_shl,bv_toNat]
 rw [BitVec.getLsbD_or,BitVec.getLsbD_and,BitVec.getLsbD_not,BitVec.getLsbD_shiftLeft,BitVec.getLsbD_shiftLeft,BitVec.getLsbD_and,decide_eq_true hj,Bool.true_and,Bool.true_and]
 rw [show bv64 ((255:Nat):Int)=bv64 255 from rfl,bits255 (by omega:j - 8 * off.toNat < 64)]
 by_cases h1:j < 8 * off.toNat
 ·rw [decide_eq_true h1,if_neg (by omega)]
  simp
 ·rw [decide_eq_false h1]
  by_cases h2:j - 8 * off.toNat < 8
  ·rw [decide_eq_true h2,if_pos (by omega),show j - 8 * off.toNat=j % 8 by omega]
   simp
  ·rw [decide_eq_false h2,if_neg (by omega)]
   simp
theorem want_fit (n m off:Int):fitI (wantV n m off):=fit_i64 _
def smallsB:ByteArray:=⟨#[48,48,48,49,48,50,48,51,48,52,48,53,48,54,48,55,48,56,48,57,49,48,49,49,49,50,49,51,49,52,49,53,49,54,49,55,49,56,49,57,50,48,50,49,50,50,50,51,50,52,50,53,50,54,50,55,50,56,50,57,51,48,51,49,51,50,51,51,51,52,51,53,51,54,51,55,51,56,51,57,52,48,52,49,52,50,52,51,52,52,52,53,52,54,52,55,52,56,52,57,53,48,53,49,53,50,53,51,53,52,53,53,53,54,53,55,53,56,53,57,54,48,54,49,54,50,54,51,54,52,54,53,54,54,54,55,54,56,54,57,55,48,55,49,55,50,55,51,55,52,55,53,55,54,55,55,55,56,55,57,56,48,56,49,56,50,56,51,56,52,56,53,56,54,56,55,56,56,56,57,57,48,57,49,57,50,57,51,57,52,57,53,57,54,57,55,57,56,57,57]⟩
def smA (n:Nat):Int:=byteAt smallsB n
def eightS (d:List Int) (off i u:Nat):List Int :=
 (((((((d.set (off+(i - 1) * 1) (smA (u % 10000 % 100 * 2+1))).set (off+(i - 2) * 1) (smA (u % 10000 % 100 * 2))).set (off+(i - 3) * 1) (smA (u % 10000 / 100 * 2+1))).set (off+(i - 4) * 1) (smA (u % 10000 / 100 * 2))).set (off+(i - 5) * 1) (smA (u / 10000 % 100 * 2+1))).set (off+(i - 6) * 1) (smA (u / 10000 % 100 * 2))).set (off+(i - 7) * 1) (smA (u / 10000 / 100 * 2+1))).set (off+(i - 8) * 1) (smA (u / 10000 / 100 * 2))
def loopS:Nat→Nat→Nat→Nat→List Int→Nat × Nat × List Int
 | 0,_,i,u,d=>(i,u,d)
 | k+1,off,i,u,d=>if 8≤i then loopS k off (i - 8) (u / 100000000) (eightS d off i (u % 100000000 % 4294967296)) else (i,u,d)
def fourS (off:Nat) (x:Nat × Nat × List Int):Nat × Nat × List Int :=
 if 4≤x.1 then (x.1 - 4,x.2.1 / 10000,(((x.2.2.set (off+(x.1 - 1) * 1) (smA (x.2.1 % 10000 % 100 * 2+1))).set (off+(x.1 - 2) * 1) (smA (x.2.1 % 10000 % 100 * 2))).set (off+(x.1 - 3) * 1) (smA (x.2.1 % 10000 / 100 * 2+1))).set (off+(x.1 - 4) * 1) (smA (x.2.1 % 10000 / 100 * 2))) else x
def twoT (off:Nat) (x:Nat × Nat × List Int):Nat × Nat × List Int :=
 if 2≤x.1 then (x.1 - 2,x.2.1 / 100,(x.2.2.set (off+(x.1 - 1) * 1) (smA (x.2.1 % 100 * 2+1))).set (off+(x.1 - 2) * 1) (smA (x.2.1 % 100 * 2))) else x
def oneT (off:Nat) (x:Nat × Nat × List Int):List Int :=
 if 0 < x.1 then x.2.2.set (off+0 * 1) (IntKind.u8.wrap (IntKind.u32.wrap (48+(x.2.1:Int)))) else x.2.2
def fmtS (off N u:Nat) (d:List Int):List Int:=oneT off (twoT off (fourS off ((loopS N off N u d).1,(loopS N off N u d).2.1 % 4294967296,(loopS N off N u d).2.2)))
theorem setS_self (h:Hp) (i:Nat) (b:Blk):(h.set i b).m i=some b:=by show (if i=i then _ else _)=_;rw [if_pos rfl]
theorem eightS_length (d:List Int) (off i u:Nat):(eightS d off i u).length=d.length:=by simp [eightS]
theorem loopS_stop {k off i u:Nat} {d:List Int} (h:i < 8):loopS k off i u d=(i,u,d):=by
 cases k with
 | zero=>rfl
 | succ k=>rw [loopS,if_neg (by omega)]
theorem set_offA {h B:Hp} {a:Nat} {b:Blk} (o:OffS (fun i=>i=a) h B):OffS (fun i=>i=a) h (B.set a b) :=
 ⟨o.1,fun i hi hn=>by show (if i=a then _ else _)=_;rw [if_neg hn];exact o.2 i hi hn⟩
set_option maxRecDepth 100000 in
set_option maxHeartbeats 0 in
theorem fb10_ex (a off N cap u:Nat) (d:List Int) (e:TypeId) (hN:N≤1000) (hu:u≤18446744073709551615) (hd:off+N≤d.length) (h:Hp) (ha:h.m a=some ⟨⟨u8s d⟩,e⟩) (haw:rwM≤a) :
 EX Tryd.prog 103 [.slice (some ⟨a,off,none⟩) N cap,.int .u64 (u:Int)] h (fun v h'=>v=.tuple #[]∧h'.m a=some ⟨⟨u8s (fmtS off N u d)⟩,e⟩∧OffS (fun i=>i=a) h h'):=by
 refine EX.intro (fn:=Tryd.f103) (c:=(Tryd.f103.body.getD .skip)) Tryd.func103 (by kernel_rfl) Tryd.ntmps103 (by kernel_rfl) fun π s0=>?_
 conv=>arg 2;whnf
 repeat (first|refine Y4c ?_|refine Y0 ?_|refine Y1e ?_|refine Y1 ?_)
 refine W.loopN (X:=Nat × Nat × List Int) (fun x=>[(0,.slice (some ⟨a,off,none⟩) N cap),(1,.int .u64 (x.2.1:Int)),(4,.int .i64 (x.1:Int))])
  (fun x B=>x.1≤N∧x.2.1≤18446744073709551615∧x.2.2.length=d.length∧B.m a=some ⟨⟨u8s x.2.2⟩,e⟩∧OffS (fun i=>i=a) h B∧∃ k,x.1≤k∧loopS k off x.1 x.2.1 x.2.2=loopS N off N u d) (fun x=>x.1)
  (fun B' y=>⟨(N,u,d),?_,⟨Nat.le_refl _,hu,rfl,y.up _ _ ha,y.oldH.off,N,Nat.le_refl _,rfl⟩⟩) ?_
 ·(repeat' (first|exact trivial|exact rfl|apply And.intro));done
 rintro x B π1 sB ⟨hi,hus,hdl,hA,hoff,k,hk,hls⟩
 generalize hxi:x.1=i at *
 generalize x.2.1=us at *
 generalize x.2.2=dd at *
 have hAn:=sB.dom _ _ hA
 by_cases h8:8≤i
 ·repeat (first|((with_reducible apply (RS.quoN (b:=100000000)));(iterate 4 exact rfl);omega;(first|exact wrap32 (by omega)|exact wrap64 (by omega)))|refine Y22 ?_|refine Y1k ?_|((with_reducible apply (RS.remN (b:=100000000)));(iterate 4 exact rfl);omega)|refine Y37 ?_|refine Y2k ?_|refine Y1p ?_|refine Y1q ?_|refine Y2l ?_|refine Y2m ?_|refine Y3a ?_|refine Y3b ?_|((with_reducible apply (RS.subNat (b:=5)));(iterate 4 exact rfl);omega)|((with_reducible apply (RS.subNat (b:=6)));(iterate 4 exact rfl);omega)|((with_reducible apply (RS.subNat (b:=7)));(iterate 4 exact rfl);omega)|((with_reducible apply (RS.subNat (b:=8)));(iterate 4 exact rfl);omega)|refine Y2i ?_|refine Y21 ?_|refine Ya ?_|refine Yv ?_|refine Yh ?_|refine Y3 ?_|refine Y0 ?_|refine Ye ?_|refine Y1 ?_|refine Y5 ?_)
  refine roundN_n rfl fun B' y=>⟨(i - 8,us / 100000000,eightS dd off i (us % 100000000 % 4294967296)),?_,⟨by show i - 8≤N;omega,by show us / 100000000≤_;omega,(eightS_length _ _ _ _).trans hdl,y.up _ _ (setS_self _ _ _),?_,?_⟩,by show i - 8 < x.1;omega⟩
  ·(repeat' (first|exact trivial|exact rfl|apply And.intro));done
  ·exact (set_offA (set_offA (set_offA (set_offA (set_offA (set_offA (set_offA (set_offA hoff)))))))).same y.oldH.off
  ·obtain ⟨k',rfl⟩:∃ k',k=k'+1:=⟨k - 1,by omega⟩
   rw [loopS,if_pos h8] at hls
   exact ⟨k',by show i - 8≤k';omega,hls⟩
 ·rw [loopS_stop (by omega)] at hls
  by_cases h4:4≤i
  ·by_cases h2:2≤i - 4
   ·by_cases h1:0 < i - 4 - 2
    ·repeat (first|refine Y22 ?_|refine Y1k ?_|refine Y37 ?_|refine Y2k ?_|refine Y1p ?_|refine Y1q ?_|refine Y2l ?_|refine Y2m ?_|refine Y3a ?_|refine Y3b ?_|refine Y2i ?_|refine Y21 ?_|refine Y3v ?_|refine Ya ?_|refine Yv ?_|refine Y14 ?_|refine Y3 ?_|refine Y2 ?_|refine Yt ?_|refine Y0 ?_|refine Y4a ?_|refine Y1 ?_|refine Y5 ?_|refine Y6 ?_|refine Yl ?_)
     refine endsK_normal [] .nil fun B' y=>⟨rfl,y.up _ _ (Eq.trans (setS_self _ _ _) ?_),(set_offA (set_offA (set_offA (set_offA (set_offA (set_offA (set_offA (hoff)))))))).same y.oldH.off⟩
     unfold fmtS
     rw [← hls]
     simp only [fourS,twoT,oneT,if_pos h4,if_pos h2,if_pos h1]<;>rfl
    ·repeat (first|refine Y22 ?_|refine Y1k ?_|refine Y37 ?_|refine Y2k ?_|refine Y1p ?_|refine Y1q ?_|refine Y2l ?_|refine Y2m ?_|refine Y3a ?_|refine Y3b ?_|refine Y2i ?_|refine Y21 ?_|refine Ya ?_|refine Yv ?_|refine Yh ?_|refine Y3 ?_|refine Y2 ?_|refine Y0 ?_|refine Y1w ?_|refine Y1 ?_|refine Y5 ?_|refine Y6 ?_|refine Yl ?_)
     refine endsK_normal [] .nil fun B' y=>⟨rfl,y.up _ _ (Eq.trans (setS_self _ _ _) ?_),(set_offA (set_offA (set_offA (set_offA (set_offA (set_offA (hoff))))))).same y.oldH.off⟩
     unfold fmtS
     rw [← hls]
     simp only [fourS,twoT,oneT,if_pos h4,if_pos h2,if_neg h1]<;>rfl
   ·by_cases h1:0 < i - 4
    ·repeat (first|refine Y22 ?_|refine Y1k ?_|refine Y37 ?_|refine Y2k ?_|refine Y1p ?_|refine Y1q ?_|refine Y2l ?_|refine Y2m ?_|refine Y3a ?_|refine Y3b ?_|refine Y2i ?_|refine Y21 ?_|refine Y3v ?_|refine Ya ?_|refine Yv ?_|refine Y14 ?_|refine Y3 ?_|refine Y2 ?_|refine Yt ?_|refine Y0 ?_|refine Y1w ?_|refine Y1 ?_|refine Y5 ?_|refine Y6 ?_|refine Yl ?_)
     refine endsK_normal [] .nil fun B' y=>⟨rfl,y.up _ _ (Eq.trans (setS_self _ _ _) ?_),(set_offA (set_offA (set_offA (set_offA (set_offA (hoff)))))).same y.oldH.off⟩
     unfold fmtS
     rw [← hls]
     simp only [fourS,twoT,oneT,if_pos h4,if_neg h2,if_pos h1]<;>rfl
    ·repeat (first|refine Y22 ?_|refine Y1k ?_|refine Y37 ?_|refine Y2k ?_|refine Y1p ?_|refine Y1q ?_|refine Y2l ?_|refine Y2m ?_|refine Y3a ?_|refine Y3b ?_|refine Y2i ?_|refine Y21 ?_|refine Ya ?_|refine Yv ?_|refine Yh ?_|refine Y3 ?_|refine Y2 ?_|refine Y0 ?_|refine Y1w ?_|refine Y1 ?_|refine Y5 ?_|refine Y6 ?_|refine Yl ?_)
     refine endsK_normal [] .nil fun B' y=>⟨rfl,y.up _ _ (Eq.trans (setS_self _ _ _) ?_),(set_offA (set_offA (set_offA (set_offA (hoff))))).same y.oldH.off⟩
     unfold fmtS
     rw [← hls]
     simp only [fourS,twoT,oneT,if_pos h4,if_neg h2,if_neg h1]<;>rfl
  ·by_cases h2:2≤i
   ·by_cases h1:0 < i - 2
    ·repeat (first|refine Y1k ?_|refine Y2k ?_|refine Y1p ?_|refine Y1q ?_|refine Y2l ?_|refine Y2m ?_|refine Y2i ?_|refine Y21 ?_|refine Y3v ?_|refine Ya ?_|refine Yv ?_|refine Y14 ?_|refine Y3 ?_|refine Y2 ?_|refine Yt ?_|refine Y0 ?_|refine Y1w ?_|refine Y1 ?_|refine Y5 ?_|refine Y6 ?_|refine Yl ?_)
     refine endsK_normal [] .nil fun B' y=>⟨rfl,y.up _ _ (Eq.trans (setS_self _ _ _) ?_),(set_offA (set_offA (set_offA (hoff)))).same y.oldH.off⟩
     unfold fmtS
     rw [← hls]
     simp only [fourS,twoT,oneT,if_neg h4,if_pos h2,if_pos h1]<;>rfl
    ·repeat (first|refine Y1k ?_|refine Y2k ?_|refine Y1p ?_|refine Y1q ?_|refine Y2l ?_|refine Y2m ?_|refine Y2i ?_|refine Y21 ?_|refine Ya ?_|refine Yv ?_|refine Yh ?_|refine Y3 ?_|refine Y2 ?_|refine Y0 ?_|refine Y1w ?_|refine Y1 ?_|refine Y5 ?_|refine Y6 ?_|refine Yl ?_)
     refine endsK_normal [] .nil fun B' y=>⟨rfl,y.up _ _ (Eq.trans (setS_self _ _ _) ?_),(set_offA (set_offA (hoff))).same y.oldH.off⟩
     unfold fmtS
     rw [← hls]
     simp only [fourS,twoT,oneT,if_neg h4,if_pos h2,if_neg h1]<;>rfl
   ·by_cases h1:0 < i
    ·repeat (first|refine Y2i ?_|refine Y3v ?_|refine Yv ?_|refine Y14 ?_|refine Y3 ?_|refine Y2 ?_|refine Yt ?_|refine Y0 ?_|refine Y1w ?_|refine Y1 ?_|refine Y5 ?_|refine Y6 ?_|refine Yl ?_)
     refine endsK_normal [] .nil fun B' y=>⟨rfl,y.up _ _ (Eq.trans (setS_self _ _ _) ?_),(set_offA (hoff)).same y.oldH.off⟩
     unfold fmtS
     rw [← hls]
     simp only [fourS,twoT,oneT,if_neg h4,if_neg h2,if_pos h1]<;>rfl
    ·repeat (first|refine Y2i ?_|refine Yh ?_|refine Y2 ?_|refine Y0 ?_|refine Y1w ?_|refine Y1 ?_|refine Y6 ?_|refine Yl ?_)
     refine endsK_normal [] .nil fun B' y=>⟨rfl,y.up _ _ (Eq.trans hA ?_),(hoff).same y.oldH.off⟩
     unfold fmtS
     rw [← hls]
     simp only [fourS,twoT,oneT,if_neg h4,if_neg h2,if_neg h1]<;>rfl
end Go.Proofs.YtjhloakacicdiaaDoor
