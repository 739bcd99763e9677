/-
  What the functions that the law reaches compute,told by plain data;it holds of programs that pass the check of right form and are light.
-/
import Derived.Carry
import Derived.LaidMore
import Derived.Lib.LaidTab
import Derived.OpenShut
import Derived.ProofKit
import Derived.Stop.Joined
import Derived.Test.YtjhloakacicdiaaDoorCards
import Derived.Test.YtjhloakacicdiaaDoorChecked
import Derived.Test.YtjhloakacicdiaaDoorR1
import Derived.Test.YtjhloakacicdiaaDoorR18
import Derived.Test.YtjhloakacicdiaaDoorR20
import Derived.Test.YtjhloakacicdiaaDoorR22
import Derived.Test.YtjhloakacicdiaaDoorR23
import Derived.Test.YtjhloakacicdiaaDoorR8
import Derived.Test.YtjhloakacicdiaaDoorS2
import Derived.Test.YtjhloakacicdiaaDoorTie
set_option linter.unusedVariables false
set_option linter.unusedSimpArgs false
namespace Go.Proofs.YtjhloakacicdiaaDoor
open Go.AH
attribute [local irreducible] W RS
theorem light_showOK {p:ProgS} (hok:p.ok) (hl:lightP p=true) (hr:rightP p=true) (hnm:∀ f∈p.funcs,f.name.data.size≤140737488351232):∀ f∈p.funcs,ShowOK f :=
 fun f hf=>(light_show hok hl hr hf).ok (hok.funcs f hf).params (hnm f hf)
def restC:Nat→Code→Code
 | n+1,.seq _ b=>restC n b
 | _,c=>c
theorem clC_ok {st:Bool} {n m off:Int} (hn:fitI n) (hm:fitI m) (ho:0≤off∧off≤7):(clP (clC st n m off)).ok:=by
 have h1:fitIB n=true:=by simpa [fitIB,fitI] using hn
 have h2:fitIB m=true:=by simpa [fitIB,fitI] using hm
 have h3:fitIB off=true:=by
  have:fitI off:=⟨by omega,by omega⟩
  simpa [fitIB,fitI] using this
 refine ProgS.ok_of ?_
 cases st
 all_goals simp [ProgS.okB,FuncS.okB,BlockS.okB,InsS.okB,TermS.okB,ArgS.okB,clP,clF,clC,slotI,storI,loadI,outI,clT,plainI,h1,h2,h3]
 all_goals decide
theorem clC_light (st:Bool) (n m:Int) {off:Int} (ho:0≤off∧off≤7):lightP (clP (clC st n m off))=true:=by
 have hc:off=0∨off=1∨off=2∨off=3∨off=4∨off=5∨off=6∨off=7:=by omega
 clear ho
 rcases hc with e|e|e|e|e|e|e|e
 all_goals
  rw [e]
  clear e
  cases st
  ·show lightP (clP (clC false n m _))=true
   kernel_rfl
  ·show lightP (clP (clC true n m _))=true
   kernel_rfl
theorem clC_right (st:Bool) (n m off:Int):rightP (clP (clC st n m off))=true:=by cases st<;>kernel_rfl
def clW (st:Bool) (n m off:Int):Int:=match st with
 | true=>wantV n m off
 | false=>n
def clN (st:Bool) (i:Nat):Int:=match st with
 | true=>match i with
  | 0=>2
  | 1=>2
  | 2=>1
  | 3=>1
  | _=>0
 | false=>match i with
  | 0=>1
  | 1=>1
  | _=>0
theorem row_two {α:Type} {h:Hp} {b w:Nat} {c1 c2:List Value} {e:TypeId} {x y:α} {R:List Value→α→Prop} (hm:h.m b=some ⟨⟨c1++c2⟩,e⟩) (l1:c1.length=w) (l2:c2.length=w) (r1:R c1 x) (r2:R c2 y):SlAt h (some ⟨b,0,none⟩) w [x,y] R:=by
 refine ⟨fun i z hz=>⟨b,0,_,e,rfl,hm,?_,?_⟩⟩
 ·have hi:=(List.getElem?_eq_some_iff.1 hz).1
  rw [List.length_append,l1,l2]
  have hi:i < 2:=hi
  have:i=0∨i=1:=by omega
  rcases this with rfl|rfl<;>omega
 ·rw [takeV_eq]
  match i,hz with
  | 0,hz =>
   have:x=z:=by simpa using hz
   subst this
   rw [show 0+0 * w=0 by omega,List.drop_zero,← l1,List.take_left];exact r1
  | 1,hz =>
   have:y=z:=by simpa using hz
   subst this
   rw [show 0+1 * w=c1.length by omega,List.drop_left,← l2,List.take_length];exact r2
  | i+2,hz=>simp at hz
theorem clL_N {st:Bool} {off:Int} {i:Nat} {x:LeakS} (h:(clL st off).reverse[i]?=some x):(x.kind=2∧clN st i=clN st (i+1)+1)∨(¬ x.kind=2∧clN st i=clN st (i+1)):=by
 cases st with
 | true =>
  match i,h with
  | 0,h=>cases h;exact .inr ⟨by decide,rfl⟩
  | 1,h=>cases h;exact .inl ⟨rfl,rfl⟩
  | 2,h=>cases h;exact .inr ⟨(by decide:¬ (3:Int)=2),rfl⟩
  | 3,h=>cases h;exact .inl ⟨rfl,rfl⟩
  | i+4,h=>cases h
 | false =>
  match i,h with
  | 0,h=>cases h;exact .inr ⟨by decide,rfl⟩
  | 1,h=>cases h;exact .inl ⟨rfl,rfl⟩
  | i+2,h=>cases h
theorem clN_end (st:Bool) (off:Int):clN st (clL st off).length=0:=by cases st<;>rfl
theorem clN_bd (st:Bool) (i:Nat):0≤clN st i∧clN st i≤2:=by
 cases st with
 | true=>match i with
  | 0=>decide
  | 1=>decide
  | 2=>decide
  | 3=>decide
  | i+4=>exact ⟨by show (0:Int)≤0;decide,by show (0:Int)≤2;decide⟩
 | false=>match i with
  | 0=>decide
  | 1=>decide
  | i+2=>exact ⟨by show (0:Int)≤0;decide,by show (0:Int)≤2;decide⟩
set_option maxRecDepth 100000 in
theorem cl_tail (h H2:Hp) (sH2:Sat Tryd.prog H2) (up2:∀ i b,h.m i=some b→H2.m i=some b) (hg:GT H2) (hnt:NT H2) (st:Bool) (n m o7:Int) (hn:fitI n) (hm:fitI m) (ho:0≤o7∧o7≤7) (hK:(OkL (clF (clI st n m o7)).regs (clF (clI st n m o7)).blocks∧InsOK (clF (clI st n m o7)))∧CopyOK (clF (clI st n m o7))) (pb ob:Nat) (A0:Option Addr) (d0:Nat) (hP:H2.m pb=some ⟨⟨progC (clP (clI st n m o7)) A0 d0 none 0⟩,25⟩) (hs:SlAt H2 A0 6 (clP (clI st n m o7)).funcs (funcRS H2))
 (A:Option Addr) (c:Nat) (hO:H2.m ob=some ⟨⟨progC (clP (clC st n m o7)) A c none 0⟩,25⟩) (hS:SlAt H2 A 6 (clP (clC st n m o7)).funcs (funcRS H2)) (π2:Nat→Nat) :
 W Tryd.prog (restC 9 (Tryd.f5.body.getD .skip)) ⟨[(1,.bool st),(2,.int .i64 o7),(7,.int .i64 n),(8,.int .i64 m),(10,.pointer (some ⟨pb,0,none⟩)),(11,.pointer (some ⟨ob,0,none⟩))],120⟩ ⟨H2,π2,0,[]⟩ (endsK Tryd.prog Tryd.f5 fun vs h'=>∀ B',Absb (P:=Tryd.prog) h' B'→resultOf vs=.bool true∧∀ i b,h.m i=some b→B'.m i=some b):=by
 conv=>arg 2;whnf
 have hC:=hK.2
 have hPn:=sH2.dom _ _ hP
 have hOn:=sH2.dom _ _ hO
 have hokC:=clC_ok (st:=st) hn hm ho
 have hSh:ShowOK (clF (clC st n m o7)):=light_showOK hokC (clC_light st n m ho) (clC_right st n m o7) (fun f hf=>by
  simp only [clP,List.mem_singleton] at hf
  subst hf
  show (4:Nat)≤_
  decide) _ (by simp [clP])
 obtain ⟨gb,go,gcs,ge,rfl,hG,hGl,B1',e1,B2',e2,B3',e3,sec,hGv,hsec,hsS,hsL,hsB⟩:=hs.get 0 _ rfl
 have hGn:=sH2.dom _ _ hG
 have hS0:=hS
 obtain ⟨kb,ko,kcs,ke,rfl,hQ,hQl,Q1,j1,Q2,j2,Q3,j3,qsec,hQv,_,_,_,hQB⟩:=hS.get 0 _ rfl
 have hQn:=sH2.dom _ _ hQ
 have hQf:∀ v∈funcC (clF (clC st n m o7)) Q1 j1 Q2 j2 Q3 j3,bnd H2.n v:=by
  intro v hv
  rw [← hQv] at hv
  rw [takeV_eq] at hv
  exact sH2.bd _ _ hQ v (by simpa using List.mem_of_mem_drop (List.mem_of_mem_take hv))
 with_reducible apply W.seq
 ((with_reducible apply W.seq);((with_reducible apply W.reg);kernel_rfl);repeat (first|((with_reducible apply RS.load1B);(iterate 3 exact rfl);exact hP;exact hPn;exact rfl)|((with_reducible apply (RS.indexAddrX (i:=0)));(iterate 4 exact rfl);exact Nat.succ_pos _;exact hQn)|((with_reducible apply (RS.indexAddrS (n:=0)));(iterate 5 exact rfl);exact Nat.succ_pos _)|refine Y1t ?_|((with_reducible apply (RS.callY (g0:=12)));(iterate 4 exact rfl);intro B5 he5 hB5;refine ⟨_,copy_ex B5 (clF (clI st n m o7)) B1' e1 B2' e2 B3' e3 sec hsec (hsS.mono hB5.up fun _ _ h=>h) (hsL.mono hB5.up fun _ _ h=>h) (hsB.mono hB5.up fun _ _ h=>blockR_mono hB5.up h) hC.pos hC.sec hC.slots hC.len hC.ins hC.args,(fun v H' ⟨_,_,_,_,_,_,_,_,_,_,_,ho,_,_⟩ i hi=>ho.2 i (Nat.lt_of_lt_of_le hi hB5.le)),?_⟩;rintro v H5 k5 l5 ⟨A1',c1',A2',c2',bb,bv,rfl,hm5,hbb5,hod5,hsl5,ho5,hr1,hr2⟩ sH5 hle5 hden5 hwf5 hk5)|((with_reducible apply (RS.callY (g0:=30)));(iterate 4 exact rfl);intro B6 he6 hB6;rw [hden5] at he6;subst he6;refine ⟨_,cse_turn H5 B5.n bb bv (clF (clI st n m o7)) A1' c1' A2' c2' sec hK.1 hsec (Nat.le_trans hB5.rw hB5.le) hbb5 hm5 hod5 hsl5 hr1 hr2,(fun v H' ⟨_,_,_,_,_,ho⟩ i hi=>ho.2 i (Nat.lt_of_lt_of_le hi hB6.le) (fun e=>absurd (Nat.le_trans hB5.le e) (Nat.not_le.2 hi))),?_⟩;rintro v H7 k7 l7 ⟨f1,cs,rfl,⟨E1,s1,E2,s2,E3,s3,sec',rfl,hF7b⟩,hRf,ho7⟩ sH7 hle7 hden7 hwf7 hk7;obtain rfl:f1=clF (clC st n m o7):=hRf.trans (cl_cse st n m o7))|((with_reducible apply (RS.callY (g0:=13)));(iterate 4 exact rfl);intro B8 he8 hB8;rw [hden7] at he8;subst he8;refine ⟨_,TF.ex (funcT_tf (clF (clC st n m o7)) hSh E1 s1 E2 s2 E3 s3 H7 (hF7b.2.2.2.mono cutE_le fun _ _ h=>blockR_mono cutE_le h) (hg.up hB8.up) (hnt.up hB8.up)),(fun v H' ⟨_,e⟩ i hi=>by rw [e]),?_⟩;rintro v H8 k8 l8 ⟨rfl,rfl⟩ sH8 hle8 hden8 hwf8 hk8)|((with_reducible apply RS.moveX);(iterate 3 exact rfl);exact (show bnd H2.n (.pointer (some ⟨ob,0,none⟩)) by simpa using hOn))|((with_reducible apply RS.nilCheckX);(iterate 3 exact rfl);exact hOn)|((with_reducible apply RS.fieldAddrX);(iterate 3 exact rfl);exact hOn)|((with_reducible apply RS.load1BX);(iterate 3 exact rfl);exact hO;exact hOn;exact rfl;exact (show bnd H2.n (.slice (some ⟨kb,ko,none⟩) _ _) by simpa using hQn))|((with_reducible apply RS.loadNF);(iterate 3 exact rfl);exact hQ;exact hQn;exact hQl;exact hQv;exact hQf)|((with_reducible apply (RS.callY (g0:=13)));(iterate 4 exact rfl);intro B9 he9 hB9;rw [hden8] at he9;subst he9;refine ⟨_,TF.ex (funcT_tf (clF (clC st n m o7)) hSh Q1 j1 Q2 j2 Q3 j3 H8 (hQB.mono hB9.up fun _ _ h=>blockR_mono hB9.up h) (hg.up hB9.up) (hnt.up hB9.up)),(fun v H' ⟨_,e⟩ i hi=>by rw [e]),?_⟩;rintro v H9 k9 l9 ⟨rfl,rfl⟩ sH9 hle9 hden9 hwf9 hk9)|((with_reducible apply RS.neqSame);iterate 5 exact rfl)|((with_reducible apply (RS.nilP mixed [(6,7),(5,7),(4,7),(3,7),(2,7),(1,7),(0,7),(6,8),(5,8),(4,8),(3,8),(2,8),(1,8),(0,8),(6,9),(5,9),(4,9),(3,9),(2,9),(1,9),(0,9),(6,10),(5,10),(4,10),(3,10),(2,10),(1,10),(0,10),(6,11),(5,11),(4,11),(3,11),(2,11),(1,11),(0,11),(6,12),(5,12),(4,12),(3,12),(2,12),(1,12),(0,12)]));kernel_rfl;(have q7:k5≤k7:=hk7);(have q8:k7≤k8:=hk8);(repeat (refine ⟨fun x y hx hy=>(by obtain rfl:=Option.some.inj hx;obtain rfl:=Option.some.inj hy;exact pairR_calm rfl rfl rfl rfl rfl rfl rfl (by simp only [recY,recP];omega) (fun j hj=>by (first|(simp [recY,recP] at hj;done)|(simp [recY,recP] at hj ⊢;omega))) (by first|exact .inl rfl|exact .inr ⟨rfl,rfl⟩)),?_⟩));exact trivial;exact rfl)|refine Y42 ?_));(with_reducible apply thenK_n)
 refine W.absorbX fun D π9 a9=>?_
 have oD:=a9.up
 have hfit:fitI (clW st n m o7):=by
  cases st
  ·exact hn
  ·exact want_fit n m o7
 obtain ⟨stk,tt,hsl,ht0,ht1,hrn⟩:=cl_run st n m o7 (clW st n m o7) 50 hn ho hfit (fun e=>by rw [e];rfl) (fun e=>by rw [e];exact want_bits ho)
 have hp:ProgAt D ob (clP (clC st n m o7)) 25 (some ⟨kb,ko,none⟩) c none 0:=⟨oD _ _ hO,hS0.mono oD fun _ _ h=>(funcRS_mono oD h).r,SlAt.nil⟩
 have hrun:=Run_to D a9.dom (clP (clC st n m o7)) ((lightP_all (clC_light st n m ho)).run hokC (clC_right st n m o7)) (Nat.zero_le _) (fun g hg=>by cases hg) ob 25 _ _ _ _ hp none 0 0 none 0 0 [] [] InRow.none InRow.none 50 (by decide) (50+1) (by decide)
 rw [hrn] at hrun
 obtain ⟨x0,lr,hcl⟩:∃ x0 lr,clL st o7=x0::lr:=by cases st<;>exact ⟨_,_,rfl⟩
 rw [hcl] at hrun
 clear hrn hp
 repeat (first|refine Y30 ?_|refine Y6 ?_)
 ((with_reducible apply W.seq);repeat (first|((with_reducible apply (RS.callO (vs:=[]) [] 2));(iterate 2 exact rfl);exact hrun;(iterate 2 exact rfl);exact trivial;exact trivial)|refine Y25 ?_|refine Y4 ?_|refine Yf ?_|refine Y11 ?_|refine Y0 ?_|refine Y1 ?_|refine Y13 ?_))
 refine W.absorbX fun C π3 a3=>?_
 have q0:C.m (π9 0)=rowBk intW 2 [clW st n m o7,n]:=a3.loc 0 (by decide:(0:Nat) < 3)
 have q1:C.m (π9 1)=rowBk leakW 74 (x0::lr):=a3.loc 1 (by decide:(1:Nat) < 3)
 have q2:C.m (π9 2)=some ⟨⟨[.int .i64 0,.int .i64 0,rowVl 1 (π9 0) [clW st n m o7,n],rowVl 3 (π9 1) (x0::lr),.int .i64 tt]⟩,71⟩:=a3.loc 2 (by decide:(2:Nat) < 3)
 rw [← hcl] at q1 q2
 have hne:clL st o7≠[]:=by cases st<;>simp [clL]
 have hs0:=row_at (R:=intR) (sz:=1) (fun _=>rfl) (fun _=>rfl) [] [clW st n m o7,n] q0
 have hs1:=row_at (R:=leakR) (sz:=3) (fun _=>rfl) (fun _=>rfl) [] (clL st o7) q1
 rw [if_neg (by simp)] at hs0
 rw [if_neg (show ¬ []++clL st o7=[] from hne)] at hs1
 rw [rowVl_eq 3 (π9 1) (clL st o7),if_neg hne,if_neg hne] at q2
 have q2:C.m (π9 2)=some ⟨⟨[.int .i64 0,.int .i64 0,.slice (some ⟨π9 0,0,none⟩) 2 (capOf 1),.slice (some ⟨π9 1,0,none⟩) (clL st o7).length (capOf 3),.int .i64 tt]⟩,71⟩:=q2
 generalize π9 0=xb at *
 generalize π9 1=lb at *
 generalize π9 2=rb at *
 clear q0 q1
 ((with_reducible apply W.seq);repeat (first|refine Yh ?_|refine Y0 ?_|refine Y1 ?_|refine Y13 ?_))
 ((with_reducible apply W.seq);repeat (first|refine Y15 ?_|refine Y0 ?_|refine Y1 ?_|refine Y13 ?_))
 with_reducible apply W.seq
 refine W.joinNT (X:=Unit) (fun _=>[(7,.int .i64 n),(12,.pointer (some ⟨rb,0,none⟩)),(13,.int .i64 (clW st n m o7)),(14,.int .i64 (clN st 0))]) (fun _ B=>Old C B) ?_ ?_
 ·cases st
  ·repeat (first|refine Y25 ?_|refine Y0 ?_|refine Y1u ?_|refine Y1 ?_|refine Y6 ?_)
   refine joinN_n rfl fun B' a=>⟨(),?_,a.oldH⟩
   (repeat' (first|exact trivial|exact rfl|apply And.intro));done
  ·repeat (first|refine Y4z ?_|refine Yh ?_|refine Yu ?_|refine Yt ?_|refine Y0 ?_|refine Y3y ?_|refine Y1 ?_|refine Y5 ?_)
   refine joinN_n rfl fun B' a=>⟨(),?_,a.oldH⟩
   (repeat' (first|exact trivial|exact rfl|apply And.intro));done
 rintro _ B4 π4 sB4 o4
 have r2:=o4.up a3.dom _ _ q2
 have r2n:=sB4.dom _ _ r2
 have hll:(clL st o7).length≤4:=by cases st<;>exact Nat.le_of_ble_eq_true rfl
 repeat (first|((with_reducible apply RS.load1B);(iterate 3 exact rfl);exact r2;exact r2n;exact rfl)|refine Y23 ?_|refine Y0 ?_|refine Y1e ?_|refine Y1 ?_)
 refine W.loopN (X:=Nat) (fun i=>[(7,.int .i64 n),(12,.pointer (some ⟨rb,0,none⟩)),(13,.int .i64 (clW st n m o7)),(14,.int .i64 (clN st i)),(93,.slice (some ⟨lb,0,none⟩) (clL st o7).length (capOf 3)),(94,.int .i64 ((clL st o7).length:Int)),(95,.int .i64 (i:Int))]) (fun i B=>i≤(clL st o7).length∧Old C B) (fun i=>(clL st o7).length - i)
  (fun B' a=>⟨0,?_,⟨Nat.zero_le _,o4.trans a.oldH⟩⟩) ?_
 ·(repeat' (first|exact trivial|exact rfl|apply And.intro));done
 rintro i B5 π5 sB5 ⟨hi,o5⟩
 have up5:=o5.up a3.dom
 have s2:=up5 _ _ q2
 have s2n:=sB5.dom _ _ s2
 by_cases hlt:i < (clL st o7).length
 ·obtain ⟨x,hx⟩:∃ x,(clL st o7).reverse[i]?=some x:=⟨_,List.getElem?_eq_getElem (by simpa using hlt)⟩
  obtain ⟨xb',xo,xcs,xe,hA,hX0,hXl,hXv⟩:=hs1.get i x hx
  injection hA with hA
  injection hA with hA1 hA2
  subst hA1;subst hA2
  have hX:=up5 _ _ hX0
  have hXn:=sB5.dom _ _ hX
  have hXv:takeV (0+i * 3) 3 xcs=leakW x:=hXv
  have hbd:=clN_bd st (i+1)
  rcases clL_N hx with ⟨hk,he⟩|⟨hk,he⟩
  ·have hsub:binI .sub .i64 (clN st i) 1=some (.int .i64 (clN st (i+1))):=by
    simp only [binI]
    rw [he,wrap64_fit (by omega) (by omega)]
    congr 2
    omega
   repeat (first|refine Y3e ?_|refine Y41 ?_|((with_reducible apply (RS.bin (v:=.int .i64 (clN st (i+1)))));(iterate 4 exact rfl);exact hsub)|refine Y9 ?_|refine Y3 ?_|refine Yd ?_|refine Y7 ?_|refine Y4 ?_|refine Yf ?_|refine Y0 ?_|refine Ye ?_|refine Y1 ?_|refine Y5 ?_)
   refine roundN_n rfl fun B' a=>⟨i+1,?_,⟨hlt,o5.trans a.oldH⟩,by omega⟩
   (repeat' (first|exact trivial|exact rfl|apply And.intro));done
  ·dsimp only
   rw [he]
   repeat (first|refine Y3e ?_|refine Y41 ?_|refine Y16 ?_|refine Y3 ?_|refine Y2 ?_|refine Yd ?_|refine Y7 ?_|refine Y4 ?_|refine Yf ?_|refine Y0 ?_|refine Ye ?_|refine Y1 ?_|refine Y5 ?_|refine Y6 ?_)
   refine roundN_n rfl fun B' a=>⟨i+1,?_,⟨hlt,o5.trans a.oldH⟩,by omega⟩
   (repeat' (first|exact trivial|exact rfl|apply And.intro));done
 ·have hie:i=(clL st o7).length:=by omega
  have hNm:∀ B',(∀ i b,B5.m i=some b→B'.m i=some b)→∀ y e,B'.m y=some ⟨⟨[.int .i64 n,.int .i64 (clW st n m o7)]⟩,e⟩→TF Tryd.prog 32 ⟨[.slice (some ⟨xb,0,none⟩) 2 (capOf 1),.slice (some ⟨y,0,none⟩) 2 2]⟩ B' (.bool true) B':=by
   intro B' hu y e hy
   have:=Nums_tf [n,clW st n m o7] [n,clW st n m o7] (some ⟨xb,0,none⟩) (capOf 1) (some ⟨y,0,none⟩) 2 (by show 2≤_;decide) (by show 2≤_;decide) B' ((hs0.mono up5 fun _ _ h=>h).mono hu fun _ _ h=>h) (row_two (c1:=[.int .i64 n]) (c2:=[.int .i64 (clW st n m o7)]) hy rfl rfl rfl rfl)
   rw [decide_eq_true rfl] at this
   exact this
  have hz:clN st i=0:=by rw [hie];exact clN_end st o7
  dsimp only
  rw [hz]
  repeat (first|((with_reducible apply RS.load1B);(iterate 3 exact rfl);exact s2;exact s2n;exact rfl)|((with_reducible apply (RS.callA (g0:=32)));(iterate 3 exact rfl);exact fun B' hB'=>hNm B' hB'.up _ _ (hB'.loc 0 (by decide:(0:Nat) < 1)))|refine Yi ?_|refine Y9 ?_|refine Yk ?_|refine Y2 ?_|refine Ym ?_|refine Y0 ?_|refine Y1x ?_|refine Y1 ?_|refine Y6 ?_|refine Yl ?_)
  exact endsK_ret _ (.cons (.tmp rfl) .nil) fun B' a=>⟨rfl,fun j x hj=>a.up _ _ (up5 _ _ (a3.up _ _ (oD _ _ (up2 _ _ hj))))⟩
theorem ins_lay {B:Hp} {l:List InsS} {ib:Nat} {e:TypeId} (hz:∀ x∈l,x.args=[]) (hI:B.m ib=some ⟨⟨(l.map fun x=>insC x none 0).flatten⟩,e⟩):SlAt B (some ⟨ib,0,none⟩) 12 l (insR B):=by
 refine ⟨fun i x hx=>?_⟩
 obtain ⟨h1,h2⟩:=flat_take (w:=12) (L:=l.map fun x=>insC x none 0) (by intro c hc;obtain ⟨y,_,rfl⟩:=List.mem_map.1 hc;rfl) (i:=i) (x:=insC x none 0) (by rw [List.getElem?_map,hx];rfl)
 exact ⟨ib,0,_,_,rfl,hI,by omega,none,0,by rw [Nat.zero_add];exact h1,by rw [hz x (List.mem_of_getElem? hx)];exact SlAt.nil⟩
theorem cl_lay {B:Hp} {l:List InsS} {ib sb bb fb cap:Nat} {e1 e2 e3 e4:TypeId} (hz:∀ x∈l,x.args=[]) (hI:B.m ib=some ⟨⟨(l.map fun x=>insC x none 0).flatten⟩,e1⟩) (hS:B.m sb=some ⟨⟨[.int .i64 8]⟩,e2⟩) (hB:B.m bb=some ⟨⟨[.slice (some ⟨ib,0,none⟩) l.length cap,.int .i64 3,.int .i64 0,.int .i64 (-1),.int .i64 0,.int .i64 0,.int .i64 0,.int .i64 0,.int .i64 0]⟩,e3⟩)
 (hF:B.m fb=some ⟨⟨[.string ⟨#[109,97,105,110]⟩,.int .i64 0,.slice none 0 0,.int .i64 3,.slice (some ⟨sb,0,none⟩) 1 1,.slice (some ⟨bb,0,none⟩) 1 1]⟩,e4⟩):SlAt B (some ⟨fb,0,none⟩) 6 (clP l).funcs (funcRS B):=by
 refine slat_one hF (Nat.le_refl _) ⟨none,0,some ⟨sb,0,none⟩,1,some ⟨bb,0,none⟩,1,[],rfl,rfl,SlAt.nil,slat_one hS (Nat.le_refl _) rfl,?_⟩
 exact slat_one hB (Nat.le_refl _) ⟨some ⟨ib,0,none⟩,cap,rfl,ins_lay hz hI⟩
theorem cl_ok {st:Bool} {n m off:Int} (hn:fitI n) (hm:fitI m) (ho:0≤off∧off≤7):(clP (clI st n m off)).ok:=by
 have h1:fitIB n=true:=by simpa [fitIB,fitI] using hn
 have h2:fitIB m=true:=by simpa [fitIB,fitI] using hm
 have h3:fitIB off=true:=by
  have:fitI off:=⟨by omega,by omega⟩
  simpa [fitIB,fitI] using this
 refine ProgS.ok_of ?_
 cases st
 all_goals simp [ProgS.okB,FuncS.okB,BlockS.okB,InsS.okB,TermS.okB,ArgS.okB,clP,clF,clI,slotI,storI,loadI,outI,clT,h1,h2,h3]
 all_goals decide
theorem cl_light (st:Bool) (n m:Int) {off:Int} (ho:0≤off∧off≤7):lightP (clP (clI st n m off))=true:=by
 have hc:off=0∨off=1∨off=2∨off=3∨off=4∨off=5∨off=6∨off=7:=by omega
 clear ho
 rcases hc with e|e|e|e|e|e|e|e
 all_goals
  rw [e]
  clear e
  cases st
  ·show lightP (clP (clI false n m _))=true
   kernel_rfl
  ·show lightP (clP (clI true n m _))=true
   kernel_rfl
theorem cl_right (st:Bool) (n m off:Int):rightP (clP (clI st n m off))=true:=by cases st<;>kernel_rfl
theorem cl_K {st:Bool} {n m off:Int} (hn:fitI n) (hm:fitI m) (ho:0≤off∧off≤7):∀ f∈(clP (clI st n m off)).funcs,(OkL f.regs f.blocks∧InsOK f)∧CopyOK f:=by
 have hok:=cl_ok (st:=st) hn hm ho
 have hl:=cl_light st n m ho
 have hr:=cl_right st n m off
 intro f hf
 have h1:=light_right hok hl hr f hf
 exact ⟨⟨h1.1,right_ins hok hr f hf⟩,h1.2⟩
theorem and7 (off:Int):∃ o7,binI .and .i64 off 7=some (.int .i64 o7)∧0≤o7∧o7≤7:=by
 have h1:(bv64 off &&& bv64 7).toNat≤7:=by
  rw [BitVec.toNat_and]
  exact Nat.le_trans Nat.and_le_right (by decide)
 have h2:i64 ((bv64 off &&& bv64 7).toNat:Int)=((bv64 off &&& bv64 7).toNat:Int):=i64_at (by omega) (by omega)
 exact ⟨i64 ((bv64 off &&& bv64 7).toNat:Int),rfl,by rw [h2];omega,by rw [h2];omega⟩
set_option maxRecDepth 100000 in
theorem CseLoads_tf (h:Hp) (hg:GT h) (hnt:NT h) (n m off:Int) (st:Bool) (hn:fitI n) (hm:fitI m) (ho:fitI off):TF Tryd.prog 5 ⟨[.agg ⟨[.int .i64 n,.int .i64 m]⟩,.bool st,.int .i64 off]⟩ h (.bool true) h:=by
 refine TF.exact (fn:=Tryd.f5) (c:=(Tryd.f5.body.getD .skip)) Tryd.func5 (by kernel_rfl) Tryd.ntmps5 (by kernel_rfl) (fun s0=>⟨Nat.le_refl _,by simp,fun i b hb=>⟨s0.dom i b hb,s0.bd i b hb⟩⟩) fun π s0=>?_
 conv=>arg 2;whnf
 obtain ⟨o7,he7,h70,h77⟩:=and7 off
 cases st
 ·repeat (first|((with_reducible apply (RS.bin (v:=.int .i64 o7)));(iterate 4 exact rfl);exact he7)|((with_reducible apply (RS.callA (g0:=26)));(iterate 3 exact rfl);exact fun B' hB'=>fit13_tf B')|refine Y3r ?_|refine Yi ?_|((with_reducible apply RS.indexAddrArr);(iterate 4 exact rfl);decide)|refine Y3z ?_|refine Y4y ?_|refine Y7 ?_|refine Y4 ?_|refine Yf ?_|refine Y11 ?_|refine Y0 ?_|refine Y1u ?_|refine Y1 ?_|refine Y6 ?_)
  refine RS.absorbX fun B0 π0 a0=>?_
  have hs:SlAt B0 (some ⟨π 6,0,none⟩) 6 (clP (clI false n m o7)).funcs (funcRS B0):=cl_lay (l:=clI false n m o7) (fun x hx=>by
   simp only [clI,List.mem_cons,List.not_mem_nil,or_false] at hx
   rcases hx with rfl|rfl|rfl|rfl|rfl|rfl<;>rfl) (a0.loc 3 (by decide:(3:Nat) < 8)) (a0.loc 4 (by decide:(4:Nat) < 8)) (a0.loc 5 (by decide:(5:Nat) < 8)) (a0.loc 6 (by decide:(6:Nat) < 8))
  have m3:B0.m (π 7)=some ⟨⟨progC (clP (clI false n m o7)) (some ⟨π 6,0,none⟩) 1 none 0⟩,25⟩:=a0.loc 7 (by decide:(7:Nat) < 8)
  repeat (first|((with_reducible apply RS.callEx);(iterate 3 exact rfl);intro B1 hB1;refine ⟨_,cse_prog_ex (clP (clI false n m o7)) (cl_K hn hm ⟨h70,h77⟩) (by show 1≤100000;decide) B1 (π 7) 25 _ _ _ _ (hB1.up _ _ m3) (hs.mono hB1.up fun _ _ h=>funcRS_mono hB1.up h),?_⟩;rintro v H2 π2 ⟨ob,A,c,fs,rfl,hO,hS,hl,hR,hold,hlo⟩ sH2 hle2)|refine Y15 ?_|refine Y0 ?_|refine Y13 ?_)
  have hl1:fs.length=1:=hl
  obtain ⟨f',rfl⟩:∃ f',fs=[f']:=by
   match fs,hl1 with
   | [f'],_=>exact ⟨f',rfl⟩
  obtain rfl:f'=clF (clC false n m o7):=(hR 0 _ f' rfl rfl).trans (cl_cse false n m o7)
  have up2:=(hB1.oldH.trans hold).up a0.dom
  have hK:=cl_K (st:=false) hn hm ⟨h70,h77⟩ _ (List.mem_singleton.2 rfl)
  exact W.weak (f':=⟨[(1,.bool false),(2,.int .i64 o7),(7,.int .i64 n),(8,.int .i64 m),(10,.pointer (some ⟨π 7,0,none⟩)),(11,.pointer (some ⟨ob,0,none⟩))],120⟩) rfl (fun t v hv=>AllV.get (by (repeat' (first|exact trivial|exact rfl|apply And.intro));done) t v hv)
   (cl_tail h H2 sH2 (fun i b hb=>up2 _ _ (a0.up _ _ hb)) ((hg.up a0.up).up up2) ((hnt.up a0.up).up up2) false n m o7 hn hm ⟨h70,h77⟩ hK (π 7) ob _ _ (up2 _ _ m3) (hs.mono up2 fun _ _ h=>funcRS_mono up2 h) A c hO hS π2)
 ·repeat (first|((with_reducible apply (RS.bin (v:=.int .i64 o7)));(iterate 4 exact rfl);exact he7)|((with_reducible apply (RS.callA (g0:=26)));(iterate 3 exact rfl);exact fun B' hB'=>fit13_tf B')|refine Y3r ?_|refine Yi ?_|((with_reducible apply RS.indexAddrArr);(iterate 4 exact rfl);decide)|refine Y3z ?_|((with_reducible apply RS.appendGrow);(iterate 11 exact rfl);exact Nat.le_of_ble_eq_true rfl;exact rfl;decide;decide)|refine Y4y ?_|refine Y7 ?_|refine Y4 ?_|refine Yf ?_|refine Y11 ?_|refine Y0 ?_|refine Y1u ?_|refine Y1 ?_|refine Y5 ?_|refine Y6 ?_)
  refine RS.absorbX fun B0 π0 a0=>?_
  have hs:SlAt B0 (some ⟨π 8,0,none⟩) 6 (clP (clI true n m o7)).funcs (funcRS B0):=cl_lay (l:=clI true n m o7) (fun x hx=>by
   simp only [clI,List.mem_cons,List.not_mem_nil,or_false] at hx
   rcases hx with rfl|rfl|rfl|rfl|rfl|rfl|rfl<;>rfl) (a0.loc 5 (by decide:(5:Nat) < 10)) (a0.loc 6 (by decide:(6:Nat) < 10)) (a0.loc 7 (by decide:(7:Nat) < 10)) (a0.loc 8 (by decide:(8:Nat) < 10))
  have m3:B0.m (π 9)=some ⟨⟨progC (clP (clI true n m o7)) (some ⟨π 8,0,none⟩) 1 none 0⟩,25⟩:=a0.loc 9 (by decide:(9:Nat) < 10)
  repeat (first|((with_reducible apply RS.callEx);(iterate 3 exact rfl);intro B1 hB1;refine ⟨_,cse_prog_ex (clP (clI true n m o7)) (cl_K hn hm ⟨h70,h77⟩) (by show 1≤100000;decide) B1 (π 9) 25 _ _ _ _ (hB1.up _ _ m3) (hs.mono hB1.up fun _ _ h=>funcRS_mono hB1.up h),?_⟩;rintro v H2 π2 ⟨ob,A,c,fs,rfl,hO,hS,hl,hR,hold,hlo⟩ sH2 hle2)|refine Y15 ?_|refine Y0 ?_|refine Y13 ?_)
  have hl1:fs.length=1:=hl
  obtain ⟨f',rfl⟩:∃ f',fs=[f']:=by
   match fs,hl1 with
   | [f'],_=>exact ⟨f',rfl⟩
  obtain rfl:f'=clF (clC true n m o7):=(hR 0 _ f' rfl rfl).trans (cl_cse true n m o7)
  have up2:=(hB1.oldH.trans hold).up a0.dom
  have hK:=cl_K (st:=true) hn hm ⟨h70,h77⟩ _ (List.mem_singleton.2 rfl)
  exact W.weak (f':=⟨[(1,.bool true),(2,.int .i64 o7),(7,.int .i64 n),(8,.int .i64 m),(10,.pointer (some ⟨π 9,0,none⟩)),(11,.pointer (some ⟨ob,0,none⟩))],120⟩) rfl (fun t v hv=>AllV.get (by (repeat' (first|exact trivial|exact rfl|apply And.intro));done) t v hv)
   (cl_tail h H2 sH2 (fun i b hb=>up2 _ _ (a0.up _ _ hb)) ((hg.up a0.up).up up2) ((hnt.up a0.up).up up2) true n m o7 hn hm ⟨h70,h77⟩ hK (π 9) ob _ _ (up2 _ _ m3) (hs.mono up2 fun _ _ h=>funcRS_mono up2 h) A c hO hS π2)
variable {H:Type} {enc:TypeId × Value→H} {G:Nat} {g0:Nat→Option Blk} {W:World}
def intΦ (_:Hp) (acs:List Value):Prop:=∃ n,acs=[.int .i64 n]∧fitI n
def argΦ (_:Hp) (acs:List Value):Prop:=∃ a,argR acs a∧ArgS.ok a
def argsΦ:Hp→List Value→Prop:=RowΦ 2 reachBytes argΦ
def insΦ (h:Hp) (acs:List Value):Prop:=∃ x,insR h acs x∧InsS.ok x
def boolΦ (_:Hp) (acs:List Value):Prop:=∃ b,acs=[.bool b]
def strΦ (_:Hp) (acs:List Value):Prop:=∃ s:ByteArray,acs=[.string s]∧s.size≤reachBytes
def termΦ (_:Hp) (acs:List Value):Prop:=∃ t,acs=termC t∧TermS.ok t
def blockΦ (h:Hp) (acs:List Value):Prop:=∃ x,blockR h acs x∧BlockS.ok x
def funcΦ (h:Hp) (acs:List Value):Prop:=∃ x,funcR h acs x∧FuncS.ok x
def nFunc:Nat:=1+1+(reachBytes * (reachBytes * 1+1)+1)
def byteΦ (_:Hp) (acs:List Value):Prop:=∃ n,byteR acs n∧(0≤n∧n≤255)
def partΦ (h:Hp) (acs:List Value):Prop:=∃ x,partR h acs x∧PartS.ok x
def globΦ (h:Hp) (acs:List Value):Prop:=∃ x,globR h acs x∧GlobS.ok x
def progΦ (h:Hp) (acs:List Value):Prop:=∃ x,progR h acs x∧ProgS.ok x
def nProg:Nat:=reachBytes * nFunc+1+(reachBytes * (reachBytes * 1+1)+1)
variable {H:Type} {enc:TypeId × Value→H} {G:Nat} {g0:Nat→Option Blk} {W:World}
def boolΨ (_:Hp) (acs:List Value):Prop:=∃ b,boolR acs b∧True
def funcΨ (h:Hp) (acs:List Value):Prop:=∃ x,funcRS h acs x∧FuncS.ok x
def progΨ (h:Hp) (acs:List Value):Prop:=∃ p A1 c1 A2 c2,acs=progC p A1 c1 A2 c2∧SlAt h A1 6 p.funcs (funcRS h)∧SlAt h A2 4 p.globals (globR h)∧p.ok
variable {H:Type} {enc:TypeId × Value→H} {G:Nat} {g0:Nat→Option Blk} {W:World}
def funcN (h:Hp) (acs:List Value):Prop:=∃ x,funcRS h acs x∧FuncS.ok x∧x.name.data.size≤140737488351232
def progN (h:Hp) (acs:List Value):Prop:=∃ p A1 c1 A2 c2,acs=progC p A1 c1 A2 c2∧SlAt h A1 6 p.funcs (funcRS h)∧SlAt h A2 4 p.globals (globR h)∧p.ok∧∀ f∈p.funcs,f.name.data.size≤140737488351232
end Go.Proofs.YtjhloakacicdiaaDoor
namespace Go.Proofs.YtjhloakacicdiaaDoor
open Go.AH Go.ChangeShapes Go.WideShapes Go.ChangeAt Go.RowKit
variable {H:Type} {enc:TypeId × Value→H} {W:World} {G:Nat} {g0:Nat→Option Blk}
theorem trodAll_below {P:Program} (hl:laidOutB P=true) {W W':World} (hb:Below W.heap.size W W'):∀ {ts:List TypeId} {vs:List Value} {ds:List (DataW H)} {ps:List MemPlace},(∀ t∈ts,P.readableRec t=true∧t < P.types.size)→(∀ x∈ps,x.block < W.heap.size)→DataW.TrodAll enc P W 0 (fun _=>true) true ts vs ds ps→DataW.TrodAll enc P W' 0 (fun b=>decide (b < W.heap.size)) true ts vs ds ps:=by
 intro ts
 induction ts with
 | nil =>
  intro vs ds ps _ _ h
  cases vs with
  | nil=>cases ds with
   | nil=>exact h
   | cons d ds=>exact h.elim
  | cons v vs=>exact h.elim
 | cons t ts ih =>
  intro vs ds ps ht hx h
  cases vs with
  | nil=>exact h.elim
  | cons v vs =>
   cases ds with
   | nil=>exact h.elim
   | cons d ds =>
    obtain ⟨p,q,h1,h2,rfl⟩:=h
    exact ⟨p,q,Below.trod hl (ht t (by simp)).1 (ht t (by simp)).2 h1 hb fun x hx'=>hx x (by simp [hx']),ih (fun t ht'=>ht t (by simp [ht'])) (fun x hx'=>hx x (by simp [hx'])) h2,rfl⟩
theorem Tryd.own:ownKnob Tryd.prog.godebug=none:=by kernel_rfl
theorem Tryd.laidOut:laidOutB Tryd.prog=true:=by kernel_rfl
theorem shutB {P:Program} {W:World} {base:Nat} {sp:Nat→Bool} {held:Bool} {t:TypeId} {b:Bool} (ht:P.underlying t=some .bool):DataW.Trod enc P W base sp held t (.bool b) (.lit (.bool b)) []:=⟨1,by simp [DataW.trod,Value.cells,ht]⟩
end Go.Proofs.YtjhloakacicdiaaDoor
namespace Go.Proofs.YtjhloakacicdiaaDoor
open Go Go.AH Go.RowKit
theorem strs_of_tab {H:Type} {enc:TypeId × Value→H} {P:Program} {w:World} {base:Nat} {sp:Nat→Bool} {held:Bool} {fuel:Nat} {t e:TypeId} {n:Nat} {cs:List Value} {zs:List ByteArray} {p:List MemPlace}
 (ht:P.underlying t=some (.array n e)) (he:P.underlying e=some .string) (hce:P.cellsOf e=1) (hct:P.cellsOf t=n)
 (h:DataW.trod enc P w base sp held fuel t cs=some (.agg (zs.map fun z=>.lit (.string z.data.toList)),p)):cs=zs.map Value.string:=by
 cases fuel with
 | zero=>simp [DataW.trod] at h
 | succ fuel =>
  simp only [DataW.trod,ht,hce,hct,Nat.mul_one] at h
  split at h
  ·rename_i hl
   obtain ⟨xs,hm,hx⟩:=Option.map_eq_some_iff.1 h
   have hxs:xs.map (·.1)=zs.map fun z=>(DataW.lit (.string z.data.toList):DataW H):=by
    have:=congrArg Prod.fst hx
    simpa using this
   have hxl:xs.length=n:=by simpa using Lib.mapM_length hm
   have hzl:zs.length=n:=by
    have:=congrArg List.length hxs
    simp at this
    omega
   apply List.ext_getElem?
   intro i
   by_cases hi:i < n
   ·obtain ⟨b,hb,hf⟩:=Lib.mapM_at hm i i (by simp [hi])
    obtain ⟨z,hc,rfl,_⟩:=DataW.trod_string he hf
    have h1:cs[i]?=some (.string z):=by
     have:=congrArg (·[0]?) hc
     simpa [List.getElem?_take,List.getElem?_drop] using this
    have h2:(xs.map (·.1))[i]?=some (DataW.lit (.string z.data.toList):DataW H):=by simp [hb]
    rw [hxs] at h2
    simp only [List.getElem?_map,Option.map_eq_some_iff,DataW.lit.injEq,Lit.string.injEq] at h2
    obtain ⟨z',hz',e⟩:=h2
    have:z'=z:=by
     have h3:z'.data=z.data:=Array.ext' e
     cases z';cases z;exact congrArg ByteArray.mk h3
    rw [h1,List.getElem?_map,hz',this];rfl
   ·rw [List.getElem?_eq_none (by omega),List.getElem?_eq_none (by simp;omega)]
  ·cases h
def dLaid : List (String × DataW Unit) := [("math/bits.deBruijn32tab", Rows.laid_math_bits_deBruijn32tab), ("math/bits.deBruijn64tab", Rows.laid_math_bits_deBruijn64tab), ("internal/strconv.uint64pow10", Rows.laid_internal_strconv_uint64pow10), ("merlon/rtl.names", Rows.laid_merlon_rtl_names)]
theorem gPow : Tryd.prog.globalNamed "internal/strconv.uint64pow10" = some 1 := by kernel_rfl
theorem gNames : Tryd.prog.globalNamed "merlon/rtl.names" = some 0 := by kernel_rfl
theorem tPow:(Tryd.prog.globals[1]?).map (·.type)=some 177:=by kernel_rfl
theorem tNames:(Tryd.prog.globals[0]?).map (·.type)=some 82:=by kernel_rfl
theorem laid_pow:(Rows.laid_internal_strconv_uint64pow10:DataW Unit)=Lib.tabData .u64 Lib.pow10Tab:=by kernel_rfl
theorem laid_names:(Rows.laid_merlon_rtl_names:DataW Unit)=.agg (namesS.map fun z=>.lit (.string z.data.toList)):=by kernel_rfl
theorem cellsPow:Tryd.prog.cellsOf 177=20:=by kernel_rfl
theorem cellsNames:Tryd.prog.cellsOf 82=31:=by kernel_rfl
theorem cellsU64:Tryd.prog.cellsOf 90=1:=by kernel_rfl
theorem cellsStr:Tryd.prog.cellsOf 9=1:=by kernel_rfl
theorem rowPow:∃ z,((begin Tryd.prog (fun _ _=>0) default).world.heap[1]?).bind Obj.row?=some (z,177):=by
 have h:(((begin Tryd.prog (fun _ _=>0) default).world.heap[1]?).bind Obj.row?).map Prod.snd=some 177:=by kernel_rfl
 obtain ⟨⟨z,t⟩,h1,h2⟩:=Option.map_eq_some_iff.1 h
 simp only at h2
 subst h2
 exact ⟨z,h1⟩
theorem rowNames:∃ z,((begin Tryd.prog (fun _ _=>0) default).world.heap[0]?).bind Obj.row?=some (z,82):=by
 have h:(((begin Tryd.prog (fun _ _=>0) default).world.heap[0]?).bind Obj.row?).map Prod.snd=some 82:=by kernel_rfl
 obtain ⟨⟨z,t⟩,h1,h2⟩:=Option.map_eq_some_iff.1 h
 simp only at h2
 subst h2
 exact ⟨z,h1⟩
theorem gsizeD:Tryd.prog.globals.size=5:=by kernel_rfl
set_option maxRecDepth 100000 in
theorem d_tabs {W : World} (h : laidMetH Tryd.prog dLaid W) : W.var? Tryd.prog "internal/strconv.uint64pow10" = some (Lib.pow10Tab.map (Value.int .u64)).toArray ∧ W.var? Tryd.prog "merlon/rtl.names" = some (strV namesS).toArray := by
 rw [MakeChecks.laidMetH_plain _ _ _ (by kernel_rfl)] at h
 obtain ⟨ps,⟨_,_,_,_,_,_,_,_,_,_,⟨_,_,_,_,_,_,_,_,_,_,⟨g2,t2,c2,f2,p2,q2,hg2,ht2,hv2,hd2,⟨g3,t3,c3,f3,p3,q3,hg3,ht3,hv3,hd3,_,_⟩,_⟩,_⟩,_⟩,_⟩:=h
 obtain rfl:=Option.some.inj (gPow.symm.trans hg2)
 obtain rfl:=Option.some.inj (tPow.symm.trans ht2)
 obtain rfl:=Option.some.inj (gNames.symm.trans hg3)
 obtain rfl:=Option.some.inj (tNames.symm.trans ht3)
 rw [laid_pow] at hd2
 rw [laid_names] at hd3
 have e2:=Lib.cells_of_tab Tryd.underlying177 Tryd.underlying90 cellsU64 cellsPow hd2
 have e3:=strs_of_tab Tryd.underlying82 Tryd.underlying9 cellsStr cellsNames hd3
 refine ⟨?_,?_⟩
 ·rw [hv2,← e2]
 ·rw [hv3]
  unfold strV
  rw [← e3]
theorem d_start {W:World} (hsh:W.ShapedOpen Tryd.prog) (hL:laidMetH Tryd.prog dLaid W):∃ g0:Nat→Option Blk,(∀ i b,i < Tryd.prog.globals.size→g0 i=some b→(∃ (tail:Array Value) (fr:Nat × Nat),W.heap[i]?=some (.cells (b.cells++tail) b.elem fr))∧∀ v∈b.cells,bnd 0 v)∧∀ ws,GT (hpW Tryd.prog.globals.size g0 ws)∧NT (hpW Tryd.prog.globals.size g0 ws):=by
 obtain ⟨z1,h1⟩:=rowPow
 obtain ⟨z0,h0⟩:=rowNames
 obtain ⟨c1,hh1,_,_⟩:=hsh.1 _ z1 _ (by rw [gsizeD];decide) h1
 obtain ⟨c0,hh0,_,_⟩:=hsh.1 _ z0 _ (by rw [gsizeD];decide) h0
 obtain ⟨hp,hn⟩:=d_tabs hL
 have e1:c1=(Lib.pow10Tab.map (Value.int .u64)).toArray:=by
  unfold World.var? at hp
  rw [gPow] at hp
  simpa only [Option.bind_some,hh1,Option.some.injEq] using hp
 have e0:c0=(strV namesS).toArray:=by
  unfold World.var? at hn
  rw [gNames] at hn
  simpa only [Option.bind_some,hh0,Option.some.injEq] using hn
 refine ⟨fun i=>if i=0 then some ⟨⟨strV namesS⟩,82⟩ else if i=1 then some ⟨⟨Lib.pow10Tab.map (Value.int .u64)⟩,177⟩ else none,fun i b hi hb=>?_,fun ws=>⟨⟨177,?_⟩,⟨82,?_⟩⟩⟩
 ·dsimp only at hb
  by_cases q0:i=0
  ·rw [if_pos q0] at hb
   injection hb with hb
   subst hb
   refine ⟨⟨#[],_,by rw [q0,hh0,e0,Array.append_empty]⟩,fun v hv=>?_⟩
   have hv:v∈strV namesS:=by simpa using hv
   obtain ⟨s,_,rfl⟩:=List.mem_map.1 hv
   simp
  ·rw [if_neg q0] at hb
   by_cases q1:i=1
   ·rw [if_pos q1] at hb
    injection hb with hb
    subst hb
    refine ⟨⟨#[],_,by rw [q1,hh1,e1,Array.append_empty]⟩,fun v hv=>?_⟩
    have hv:v∈Lib.pow10Tab.map (Value.int .u64):=by simpa using hv
    obtain ⟨s,_,rfl⟩:=List.mem_map.1 hv
    simp
   ·rw [if_neg q1] at hb;cases hb
 ·simp [hpW,gsizeD]
 ·simp [hpW,gsizeD]
theorem d_door (os:Os) (args:Array Value):laidMetH Tryd.prog dLaid ((World.doorLaid Tryd.prog 4000 os).forCall (fun _ _=>0) ⟨#[],args,[]⟩).memory :=
 laidMetH_of_parts3 (fuel:=8) (laidMet_of_run' 8 (by kernel_rfl) (by kernel_rfl)) (by kernel_rfl) (by kernel_rfl)
end Go.Proofs.YtjhloakacicdiaaDoor
namespace Go.Proofs.YtjhloakacicdiaaDoor
open Go Go.AH Go.ChangeShapes Go.WideShapes Go.ChangeAt Go.RowKit
theorem trod_pair {P:Program} {W:World} {H:Type} {enc:TypeId × Value→H} {base:Nat} {sp:Nat→Bool} {held:Bool} {t e:TypeId} {k:IntKind} {cs:Array Value} {d:DataW H} {ps:List MemPlace} (ht:P.underlying t=some (.array 2 e)) (he:P.underlying e=some (.int k)) (hc:P.cellsOf e=1) (hc2:P.cellsOf t=2) (h:DataW.Trod enc P W base sp held t (.agg cs) d ps) :
 ∃ a b,cs=⟨[.int k a,.int k b]⟩∧(Lit.int k a).wf=true∧(Lit.int k b).wf=true:=by
 obtain ⟨fuel,h⟩:=h
 cases fuel with
 | zero=>simp [DataW.trod] at h
 | succ fuel =>
  rw [show Value.cells (.agg cs)=cs by simp [Value.cells]] at h
  obtain ⟨l⟩:=cs
  unfold DataW.trod at h
  rw [ht] at h
  have h':(if l.length=P.cellsOf t then ((List.range 2).mapM fun i=>DataW.trod enc P W base sp held fuel e ((l.drop (i * P.cellsOf e)).take (P.cellsOf e))).map fun xs=>((DataW.agg (xs.map (·.1)):DataW H),xs.flatMap (·.2)) else none)=some (d,ps):=by
   split at h<;>first|exact h|(simp_all;done)
  split at h'
  ·rename_i hl
   rw [hc2] at hl
   match l,hl with
   | [u,v],_ =>
    rw [hc] at h'
    obtain ⟨xs,hxs,_⟩:=Option.map_eq_some_iff.1 h'
    simp only [List.range,List.range.loop,List.mapM_cons,List.mapM_nil,Nat.zero_mul,Nat.one_mul,List.drop_zero,List.take_succ_cons,List.take_zero,List.drop_succ_cons] at hxs
    cases hu:DataW.trod enc P W base sp held fuel e [u] with
    | none=>rw [hu] at hxs;simp at hxs
    | some x =>
     cases hv:DataW.trod enc P W base sp held fuel e [v] with
     | none=>rw [hu,hv] at hxs;simp at hxs
     | some y =>
      obtain ⟨a,h1,_,h2⟩:=DataW.trod_int he hu
      obtain ⟨b,h3,_,h4⟩:=DataW.trod_int he hv
      simp only [List.cons.injEq,and_true] at h1 h3
      subst h1;subst h3
      exact ⟨a,b,rfl,h2,h4⟩
  ·cases h'
theorem wf_fit {a:Int} (h:(Lit.int .i64 a).wf=true):fitI a:=by simpa [Lit.wf,fitI,IntKind.min,IntKind.max,IntKind.signed,IntKind.bits] using h
set_option maxRecDepth 100000 in
theorem cseLoads_lifted (os:Os) (started:os.Started) (H:Type) (enc:TypeId × Value→H) :
 ReturnsInHanded {} Tryd.checked os 5 .any (fun w args=>(Rows.cseLoadsSpec.pre enc Tryd.prog Tryd.f5 [] false w args∧laidMetH Tryd.prog dLaid w)∧sizedMet enc Tryd.prog Tryd.f5 (OpenSpec.ofChange Rows.cseLoadsSpec) false w args)
  (Rows.cseLoadsSpec.post enc Tryd.prog Tryd.f5 false true false false):=by
 refine handed_and_shaped (C:=Tryd.checked) (X:=fun w _=>laidMetH Tryd.prog dLaid w) (fun _ _ _ hh h=>h.of_heap hh) Tryd.own started (by kernel_rfl) Tryd.func5
  (ChangeSpec.witness_shaped (enc:=enc) (C:=Tryd.checked) (os:=os) (X:=fun w _=>laidMetH Tryd.prog dLaid w) false (World.doorLaid Tryd.prog 4000 os) #[.agg #[.int .i64 0,.int .i64 0],.bool false,.int .i64 0] 8 rfl (World.shaped_of_RefB (by kernel_rfl) (by kernel_rfl)) (by kernel_rfl) (by kernel_rfl) (by kernel_rfl) (d_door os _)) ?_
 intro W base args ds gs before hval0 hW _ hwt0 hL hsh _
 have hval:∀ (j:Nat) t v,Tryd.f5.params[j]?=some t→args[j]?=some v→Value.okWide Tryd.prog W .any base t v:=hval0
 have hW':DataW.Whole enc Tryd.prog Tryd.f5.params.toList Rows.cseLoadsSpec.vars false W args.toList ds gs before:=hW
 obtain ⟨p,q,hA0,hV,hbe,hfz,hnd⟩:=hW
 have hA:DataW.TrodAll enc Tryd.prog W 0 (fun _=>true) true Tryd.f5.params.toList args.toList ds p:=hA0
 have hpar:Tryd.f5.params=#[64,4,3]:=by kernel_rfl
 have hA1:=hA
 rw [hpar] at hA1 hval
 obtain ⟨v0,v1,v2,d0,d1,d2,p0,p1,p2,rfl,rfl,rfl,h0,h1,h2⟩:=trodAll_three hA1
 obtain ⟨rfl,rfl⟩:=trodVars_none hV
 obtain ⟨cs0,rfl⟩:∃ cs,v0=.agg cs:=by
  have:=hval 0 64 v0 rfl rfl
  simp only [Value.okWide,Tryd.underlying64] at this
  obtain ⟨cs,h,_⟩:=this
  exact ⟨cs,h⟩
 obtain ⟨n,m,rfl,hn,hm⟩:=trod_pair Tryd.underlying64 Tryd.underlying2 (by kernel_rfl) (by kernel_rfl) h0
 obtain ⟨st,rfl,_,_⟩:=open_bool Tryd.underlying4 (hval 1 4 v1 rfl rfl) h1
 obtain ⟨off,rfl,_,_,hoff⟩:=open_int Tryd.underlying3 (hval 2 3 v2 rfl rfl) h2
 obtain ⟨g0,hg0,hgt⟩:=d_start hsh hL
 have hlay:Lay Tryd.prog.globals.size W []:=⟨fun i w b h=>by simp at h,fun i w b h=>by simp at h⟩
 have hG:Tryd.prog.globals.size+([]:List Win).length≤rwM:=Nat.le_of_ble_eq_true (by kernel_rfl)
 have ht:=CseLoads_tf (hpW Tryd.prog.globals.size g0 []) (hgt []).1 (hgt []).2 n m off st (wf_fit hn) (wf_fit hm) (wf_fit hoff)
 have hh:=TF.below ht (fun i b h=>h) (by
  intro x hx
  have hx:x=Value.agg ⟨[.int .i64 n,.int .i64 m]⟩∨x=.bool st∨x=.int .i64 off:=by simpa using hx
  rcases hx with rfl|rfl|rfl
  ·rw [bnd_agg];intro v hv
   have hv:v=Value.int .i64 n∨v=.int .i64 m:=by simpa using hv
   rcases hv with rfl|rfl<;>simp
  ·simp
  ·simp) (Lay.hok hlay hG hg0)
 have hargs:(⟨[.agg ⟨[.int .i64 n,.int .i64 m]⟩,.bool st,.int .i64 off]⟩:Array Value).map (ren (envW Tryd.prog.globals.size []))=#[.agg ⟨[.int .i64 n,.int .i64 m]⟩,.bool st,.int .i64 off]:=by
  simp only [List.map_toArray,List.map_cons,List.map_nil,ren_int,ren_bool,ren_agg]
 rw [hargs] at hh
 refine hh.mono fun e W' ⟨⟨ρ',he⟩,hb⟩=>?_
 have hres:DataW.TrodAll enc Tryd.prog W' W.heap.size (fun _=>false) false [4] [.bool true] [.lit (.bool true)] []:=trodAll_mk1 (shutB (by kernel_rfl))
 refine ⟨.bool true,by simpa using he,[d0,d1,d2],[],before,[],p0++p1++p2,[],hW',hres,?_,rfl,Below.frame hb _,fun h=>by cases h⟩
 refine trodAll_below Tryd.laidOut hb (ts:=Tryd.f5.params.toList) (fun t ht=>?_) (fun x hx=>hW'.lt x (by rw [hbe,List.append_nil];exact hx)) hA
 rw [hpar] at ht
 have ht:t=64∨t=4∨t=3:=by simpa using ht
 rcases ht with rfl|rfl|rfl
 all_goals exact ⟨by kernel_rfl,of_decide_eq_true (by kernel_rfl)⟩
theorem cseLoads_holds:Rows.CseLoadsSaid :=
 OpenClaim.holds_of_wide 5 Tryd.f5 rfl rfl rfl rfl rfl rfl rfl ⟨rfl,rfl,rfl,rfl,rfl⟩ rfl rfl rfl rfl rfl (by kernel_rfl) Tryd.func5 (by kernel_rfl)
  (of_decide_eq_true (by kernel_rfl)) (by unfold Func.isWrapper;rw [if_neg (by decide +kernel)];exact ⟨rfl,rfl⟩)
  (fun os started H enc _=>cseLoads_lifted os started H enc)
theorem cseLoads_card:Rows.CseLoadsCardSaid :=
 Claim7.holds_tied_plain_at .later [] [.data, .data, .data, .data] true (true, "4301043a9d7481003906c8a6f3ade470f248aed11d6693d68c136400572a01d6") false
  cseLoads_holds (fun _ h=>by cases h) (by kernel_rfl) (fun _ h=>by cases h) cseLoads_row_tie rfl ⟨rfl,rfl⟩ (by kernel_rfl) rfl
  (fun f fn hf hfn=>by
   obtain rfl:f=5:=Option.some.inj ((show Tryd.prog.funcNamed Rows.cseLoadsRow.func=some 5 by kernel_rfl).symm.trans hf) |>.symm
   obtain rfl:fn=Tryd.f5:=(Option.some.inj (Tryd.func5.symm.trans hfn)).symm
   exact ⟨by kernel_rfl,fun j t ht=>by
    rw [show Tryd.f5.params=#[64,4,3] by kernel_rfl] at ht
    have h3:t=64∨t=4∨t=3:=by
     rcases j with _|_|_|j
     ·exact .inl (by simpa using ht.symm)
     ·exact .inr (.inl (by simpa using ht.symm))
     ·exact .inr (.inr (by simpa using ht.symm))
     ·simp at ht
    rcases h3 with rfl|rfl|rfl
    ·exact (show Tryd.prog.wantsStandIn 64=false by kernel_rfl)
    ·exact (show Tryd.prog.wantsStandIn 4=false by kernel_rfl)
    ·exact (show Tryd.prog.wantsStandIn 3=false by kernel_rfl)⟩)
  (by kernel_rfl)
#print axioms cseLoads_card
end Go.Proofs.YtjhloakacicdiaaDoor
