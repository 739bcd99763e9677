/-
  What the functions that the law reaches compute,told by plain data;it holds of programs that pass the check of right form and are light.
-/
import Derived.Test.YtgpigfcagppohaaGreatDoorR19
set_option linter.unusedVariables false
set_option linter.unusedSimpArgs false
namespace Go.Proofs.YtgpigfcagppohaaGreatDoor
open Go.AH
attribute [local irreducible] W RS WR
section
variable {L:List TokS} {tb cap pb:Nat} {h:Hp} {st:PS}
theorem EX.tf {g:FuncId} {args:List Value} {v:Value} {t:PS} (p:ParAt L tb cap pb h st) (hv:bnd h.n v) (he:EX Tryz.prog g args h (StepQ L tb cap pb h v t)):TF Tryz.prog g ⟨args⟩ h v (h.set pb (psB L tb cap t)):=by
 intro ha ρ W hok
 have s:Sat Tryz.prog h:=⟨ρ,W,hok⟩
 obtain ⟨v1,h1,htf,hv1,p1,o1⟩:=he s (fun x hx=>ha x (by simpa using hx))
 subst hv1
 obtain ⟨g1,g2,g3⟩:=par_set p t hv s
 have hm:∀ i b,(h.set pb (psB L tb cap t)).m i=some b→h1.m i=some b:=by
  intro i b hb
  have hb:(if i=pb then some (psB L tb cap t) else h.m i)=some b:=hb
  by_cases e:i=pb
  ·rw [if_pos e] at hb;rw [e,← hb];exact p1.par
  ·rw [if_neg e] at hb;exact o1.keep hb (s.dom _ _ hb) e
 refine (htf ha ρ W hok).mono ?_
 rintro e W' ⟨ρ',rfl,_,hok',hE⟩
 exact ⟨ρ',rfl,g2,⟨fun i b hb=>hok'.fits _ _ (hm i b hb),fun i b hb=>(g3 i b hb).1,fun i j b c hi0 hb hc hl=>hok'.inj _ _ _ _ hi0 (hm i b hb) (hm j c hc) hl,fun i b hb=>(g3 i b hb).2,hok'.glob,Nat.le_trans hok.gle g1,hok.gow⟩,
  ⟨hE.agree,g1,hE.kept,hE.size,fun i b hi0 hb hl=>hE.own i b hi0 (hm i b hb) hl,hE.tape,hE.os,hE.output,fun i b hin hb=>hE.surv i b hin (hm i b hb)⟩⟩
theorem stars_ex (hL:ToksOK L) (p:ParAt L tb cap pb h st) {n k:Nat} {t:PS} (hs:starsS (tokN L) n st 0=some (k,t)):EX Tryz.prog 108 [ptrC pb] h (StepQ L tb cap pb h (.int .i64 k) t):=by
 refine EX.intro (fn:=Tryz.f108) (c:=(Tryz.f108.body.getD .skip)) Tryz.func108 (by kernel_rfl) Tryz.ntmps108 (by kernel_rfl) fun π s0=>?_
 conv=>arg 2;whnf
 ((with_reducible apply W.seq);repeat (first|refine Yw ?_|refine Y0 ?_|refine Y1 ?_|refine Ym ?_))
 ((with_reducible apply W.seq);repeat (first|refine Yw ?_|refine Y0 ?_|refine Y1 ?_|refine Ym ?_))
 with_reducible apply W.seq
 with_reducible apply W.block
 refine W.loopN (X:=Nat × PS × Nat) (fun x=>[(0,ptrC pb),(3,.int .i64 x.2.2)]) (fun x B=>ParAt L tb cap pb B x.2.1∧OffP pb h B∧starsS (tokN L) x.1 x.2.1 x.2.2=some (k,t)) (fun x=>x.1) (fun B' a=>⟨(n,st,0),?_,p.abs s0 a,(OffP.refl pb h).abs a,hs⟩) ?_
 ·(repeat' (first|exact trivial|exact rfl|apply And.intro));done
 rintro ⟨n,st,j⟩ B π1 sp ⟨p,o,hs⟩
 dsimp only at p o hs ⊢
 cases n with
 | zero=>cases hs
 | succ n =>
  rw [starsS] at hs
  obtain ⟨⟨b,u⟩,htk,hs⟩:=bind_some' hs
  cases b with
  | true =>
   simp only [if_true] at hs
   split at hs
   ·rename_i hj
    repeat (first|((with_reducible apply (RS.callEx (g0:=66)));(iterate 3 exact rfl);intro B1 hB1;refine ⟨_,take_ex hL (p.abs sp hB1) _ htk,?_⟩;rintro v H1 π1 ⟨rfl,p',o'⟩ sp' hle1;have o:=(o.abs hB1).trans o';have p:=p';have sp:=sp')|refine Y7 ?_|refine Yp ?_|refine Y0 ?_|refine Yt ?_|refine Y1 ?_|refine Y5 ?_)
    refine roundN_n rfl fun B' a=>⟨(n,u,j+1),?_,⟨p.abs sp a,o.abs a,hs⟩,Nat.lt_succ_self n⟩
    (repeat' (first|exact trivial|exact rfl|apply And.intro));done
   ·cases hs
  | false =>
   simp only [Bool.false_eq_true,if_false,Option.some.injEq,Prod.mk.injEq] at hs
   obtain ⟨rfl,rfl⟩:=hs
   repeat (first|((with_reducible apply (RS.callEx (g0:=66)));(iterate 3 exact rfl);intro B1 hB1;refine ⟨_,take_ex hL (p.abs sp hB1) _ htk,?_⟩;rintro v H1 π1 ⟨rfl,p',o'⟩ sp' hle1;have o:=(o.abs hB1).trans o';have p:=p';have sp:=sp')|refine Y7 ?_|refine Y0 ?_|refine Y1t ?_|refine Y1 ?_|refine Y3 ?_|refine Yn ?_)
   exact endsK_ret _ (.cons (.tmp rfl) .nil) fun B' a=>⟨rfl,p.abs sp a,o.abs a⟩
theorem dims_iff {T:Nat→TokS} {st t:PS} {l:List Nat} (hs:dimsS T st=some (l,t)):(st.take T (b1 91)=some (false,t)∧l=[])∨(∃ u,st.take T (b1 91)=some (true,u)∧(u.tok T).kind=3 ∧
 ((((u.tok T).value < 1∨4096 < (u.tok T).value)∧l=[]∧t=u.fail T 18)∨(1≤(u.tok T).value∧(u.tok T).value≤4096∧u.at_ < 1000000∧l=[(u.tok T).value]∧∃ u2,({ u with at_:=u.at_+1 }:PS).want T (b1 93)=some u2∧u2.take T (b1 91)=some (false,t)))):=by
 unfold dimsS at hs
 obtain ⟨⟨b,u⟩,htk,hs⟩:=bind_some' hs
 cases b with
 | false =>
  simp only [Bool.false_eq_true,if_false,Option.some.injEq,Prod.mk.injEq] at hs
  obtain ⟨rfl,rfl⟩:=hs
  exact .inl ⟨htk,rfl⟩
 | true =>
  simp only [if_true] at hs
  split at hs
  ·cases hs
  rename_i hk
  split at hs
  ·rename_i hv
   simp only [Option.some.injEq,Prod.mk.injEq] at hs
   exact .inr ⟨u,htk,Classical.not_not.1 hk,.inl ⟨hv,hs.1.symm,hs.2.symm⟩⟩
  ·rename_i hv
   obtain ⟨u1,h1,hs⟩:=bind_some' hs
   obtain ⟨u2,h2,hs⟩:=bind_some' hs
   obtain ⟨⟨c,u3⟩,h3,hs⟩:=bind_some' hs
   obtain ⟨ha,rfl⟩:=adv_iff h1
   cases c with
   | true=>cases hs
   | false =>
    simp only [Bool.false_eq_true,if_false,Option.some.injEq,Prod.mk.injEq] at hs
    obtain ⟨rfl,rfl⟩:=hs
    exact .inr ⟨u,htk,Classical.not_not.1 hk,.inr ⟨by omega,by omega,ha,rfl,u2,h2,h3⟩⟩
def DimQ (L:List TokS) (tb cap pb:Nat) (h:Hp) (l:List Nat) (t:PS) (v:Value) (h':Hp):Prop:=∃ A c,v=.slice A l.length c∧(l=[]→A=none∧c=0)∧RowAt h' h.n 3 A (dimsC l)∧ParAt L tb cap pb h' t∧OffP pb h h'
theorem wrap_le {a:Nat} (h:a≤1000000):Go.IntKind.i64.wrap (a:Int)=(a:Int):=by
 exact wrap64_fit (by omega) (by omega)
set_option maxHeartbeats 4000000 in
theorem dims_ex (hL:ToksOK L) (p:ParAt L tb cap pb h st) {l:List Nat} {t:PS} (hs:dimsS (tokN L) st=some (l,t)):EX Tryz.prog 109 [ptrC pb] h (DimQ L tb cap pb h l t):=by
 refine EX.intro (fn:=Tryz.f109) (c:=(Tryz.f109.body.getD .skip)) Tryz.func109 (by kernel_rfl) Tryz.ntmps109 (by kernel_rfl) fun π s0=>?_
 conv=>arg 2;whnf
 have hpb:=s0.dom _ _ p.par
 have q:Now L tb cap pb h h st:=⟨p,s0.dom,OffP.refl pb h⟩
 rcases dims_iff hs with ⟨htk,rfl⟩|⟨u,htk,hk,⟨hv,rfl,rfl⟩|⟨hv1,hv2,ha,rfl,u2,h2,h3⟩⟩
 ·repeat (first|refine Y6p ?_|refine Y1l ?_|refine Y23 ?_|((with_reducible apply (RS.callEx (g0:=66)));(iterate 3 exact rfl);intro B1 hB1;refine ⟨_,take_ex hL (q.p.absd q.d hB1) _ htk,?_⟩;rintro v H1 π1 ⟨rfl,p',o'⟩ sp1 hle1;have q:Now L tb cap pb h H1 _:=⟨p',sp1.dom,(q.o.abs hB1).trans o'⟩)|refine Y7 ?_|refine Y0 ?_|refine Y4s ?_|refine Y1 ?_|refine Y3 ?_|refine Yn ?_)
  exact endsK_ret _ (.cons (.tmp rfl) .nil) fun B' a=>⟨none,0,rfl,fun _=>⟨rfl,rfl⟩,.inl ⟨rfl,rfl⟩,(q.ends a).1,(q.ends a).2⟩
 ·have hv':(u.tok (tokN L)).value < 1∨¬ (u.tok (tokN L)).value < 1∧4096 < (u.tok (tokN L)).value:=by omega
  rcases hv' with hv|⟨hv0,hv⟩
  ·repeat (first|refine Y6p ?_|refine Y1l ?_|refine Y64 ?_|((with_reducible apply (RS.callEx (g0:=66)));(iterate 3 exact rfl);intro B1 hB1;refine ⟨_,take_ex hL (q.p.absd q.d hB1) _ htk,?_⟩;rintro v H1 π1 ⟨rfl,p',o'⟩ sp1 hle1;have q:Now L tb cap pb h H1 _:=⟨p',sp1.dom,(q.o.abs hB1).trans o'⟩)|refine Y14 ?_|((with_reducible apply (RS.callEx (g0:=59)));(iterate 3 exact rfl);intro B2 hB2;refine ⟨_,fail_ex hL (q.p.absd q.d hB2) 18,?_⟩;rintro v H2 π2 ⟨rfl,p2,o2⟩ sp2 hle2;have q:Now L tb cap pb h H2 _:=⟨p2,sp2.dom,(q.o.abs hB2).trans o2⟩)|refine Yu ?_|refine Yd ?_|refine Y6 ?_|refine Y4 ?_|refine Yh ?_|refine Y2 ?_|refine Y9 ?_|refine Yk ?_|refine Y0 ?_|refine Ys ?_|refine Y1 ?_|refine Y5 ?_|refine Y3 ?_)
   exact endsK_ret _ (.cons (.tmp rfl) .nil) fun B' a=>⟨none,0,rfl,fun _=>⟨rfl,rfl⟩,.inl ⟨rfl,rfl⟩,(q.ends a).1,(q.ends a).2⟩
  ·repeat (first|refine Y6p ?_|refine Y1l ?_|refine Y64 ?_|((with_reducible apply (RS.callEx (g0:=66)));(iterate 3 exact rfl);intro B1 hB1;refine ⟨_,take_ex hL (q.p.absd q.d hB1) _ htk,?_⟩;rintro v H1 π1 ⟨rfl,p',o'⟩ sp1 hle1;have q:Now L tb cap pb h H1 _:=⟨p',sp1.dom,(q.o.abs hB1).trans o'⟩)|refine Y14 ?_|((with_reducible apply (RS.callEx (g0:=59)));(iterate 3 exact rfl);intro B2 hB2;refine ⟨_,fail_ex hL (q.p.absd q.d hB2) 18,?_⟩;rintro v H2 π2 ⟨rfl,p2,o2⟩ sp2 hle2;have q:Now L tb cap pb h H2 _:=⟨p2,sp2.dom,(q.o.abs hB2).trans o2⟩)|refine Yu ?_|refine Yc ?_|refine Y6 ?_|refine Y4 ?_|refine Yh ?_|refine Y2 ?_|refine Y9 ?_|refine Y0 ?_|refine Ys ?_|refine Y1 ?_|refine Y5 ?_|refine Y3 ?_)
   exact endsK_ret _ (.cons (.tmp rfl) .nil) fun B' a=>⟨none,0,rfl,fun _=>⟨rfl,rfl⟩,.inl ⟨rfl,rfl⟩,(q.ends a).1,(q.ends a).2⟩
 ·repeat (first|refine Y6p ?_|refine Y1l ?_|((with_reducible apply (RS.callEx (g0:=66)));(iterate 3 exact rfl);intro B1 hB1;refine ⟨_,take_ex hL (q.p.absd q.d hB1) _ htk,?_⟩;rintro v H1 π1 ⟨rfl,p',o'⟩ sp1 hle1;have q:Now L tb cap pb h H1 _:=⟨p',sp1.dom,(q.o.abs hB1).trans o'⟩)|refine Y14 ?_|refine Y1u ?_|((with_reducible apply (RS.storeB (cs':=psC L tb cap { u with at_:=u.at_+1 })));(iterate 3 exact rfl);exact q.p.par;exact q.d _ _ q.p.par;exact q.p.rw;exact Nat.le_of_ble_eq_true rfl;(iterate 3 exact rfl);(have q:=q.set (st':={ u with at_:=u.at_+1 }) ⟨ha,q.p.fits.d,q.p.fits.n⟩))|((with_reducible apply RS.convNat);(iterate 3 exact rfl);exact wrap_le (Nat.le_trans hv2 (Nat.le_of_ble_eq_true rfl)))|refine Yi ?_|((with_reducible apply (RS.appendNil (i:=1)));(iterate 8 exact rfl);exact Nat.le_of_ble_eq_true rfl;exact Nat.lt_succ_self 0;exact Nat.le_of_ble_eq_true rfl;exact Nat.le_of_ble_eq_true rfl)|refine Y1c ?_|refine Yc ?_|refine Y4 ?_|refine Yp ?_|refine Yh ?_|refine Y2 ?_|refine Y9 ?_|refine Y0 ?_|refine Yt ?_|refine Y1 ?_|refine Y5 ?_|refine Y3 ?_)
  refine RS.absorbX fun G π2 a=>?_
  have hrow:G.m (π1 2)=some ⟨⟨dimsC [(u.tok (tokN L)).value]⟩,3⟩:=a.loc 2 (Nat.lt_succ_self 2)
  have hlo:h.n≤π1 2:=Nat.le_trans q.o.1 (a.lo 2 (Nat.lt_succ_self 2))
  have hne:π1 2≠pb:=by omega
  have q:Now L tb cap pb h G _:=⟨(q.ends a).1,a.dom,(q.ends a).2⟩
  have hrn:=q.d _ _ hrow
  change RS _ _ _ _ _ ⟨(45,ptrC pb)::(3,Value.slice (some ⟨π1 2,0,none⟩) 1 (capOf 1))::_,_⟩ _ _
  generalize π1 2=rb at *
  clear hB1 o' p' a
  repeat (first|refine Y1l ?_|refine Y2z ?_|refine Y23 ?_|((with_reducible apply (RS.callEx (g0:=68)));(iterate 3 exact rfl);intro B3 hB3;refine ⟨_,want_ex hL (q.p.absd q.d hB3) _ h2,?_⟩;rintro v H3 π3 ⟨rfl,p3,o3⟩ sp3 hle3;have hrow:=(((OffP.refl pb _).abs hB3).trans o3).keep hrow hrn hne;have q:Now L tb cap pb h H3 _:=⟨p3,sp3.dom,(q.o.abs hB3).trans o3⟩;have hrn:=q.d _ _ hrow)|((with_reducible apply (RS.callEx (g0:=66)));(iterate 3 exact rfl);intro B4 hB4;refine ⟨_,take_ex hL (q.p.absd q.d hB4) _ h3,?_⟩;rintro v H4 π4 ⟨rfl,p4,o4⟩ sp4 hle4;have hrow:=(((OffP.refl pb _).abs hB4).trans o4).keep hrow hrn hne;have q:Now L tb cap pb h H4 _:=⟨p4,sp4.dom,(q.o.abs hB4).trans o4⟩;have hrn:=q.d _ _ hrow)|refine Y7 ?_|refine Y0 ?_|(with_reducible first|apply W.seq|apply W.exit|apply W.ret|apply thenK_n|apply thenK_e|apply blockK_n)|refine Y1 ?_|refine Y3 ?_|refine Yn ?_)
  exact endsK_ret _ (.cons (.tmp rfl) .nil) fun B' a=>⟨some ⟨rb,0,none⟩,capOf 1,rfl,(fun e=>by cases e),.inr ⟨rb,rfl,hlo,a.up _ _ hrow⟩,(q.ends a).1,(q.ends a).2⟩
theorem stars_fits {T:Nat→TokS}:∀ {n:Nat} {st t:PS} {j k:Nat},starsS T n st j=some (k,t)→st.Fits→t.Fits
 | 0,_,_,_,_,h,_=>by cases h
 | n+1,st,t,j,k,h,f=>by
  rw [starsS] at h
  obtain ⟨⟨b,u⟩,h1,h⟩:=bind_some' h
  cases b with
  | true =>
   simp only [if_true] at h
   split at h
   ·exact stars_fits h (f.take h1)
   ·cases h
  | false =>
   simp only [Bool.false_eq_true,if_false,Option.some.injEq,Prod.mk.injEq] at h
   obtain ⟨_,rfl⟩:=h
   exact f.take h1
theorem PS.Fits.name {T:Nat→TokS} {x:ByteArray} {st t:PS} (f:st.Fits) (h:st.name T=some (x,t)):t.Fits:=by
 unfold PS.name at h
 split at h
 ·obtain ⟨u,h1,h2⟩:=Option.map_eq_some_iff.1 h
  injection h2 with _ h2
  subst h2;exact f.adv h1
 ·injection h with h;injection h with _ h;subst h;exact f.fail _
theorem rest_iff {T:Nat→TokS} {n:Nat} {s:SpecS} {d:DeclS} {t:PS} (h:restS T n s st=some (d,t)):∃ k u1,starsS T n st 0=some (k,u1)∧∃ u2,u1.take T (b1 40)=some (false,u2)∧∃ x u3,u2.name T=some (x,u3)∧∃ l,dimsS T u3=some (l,t)∧d=⟨⟨s,k,l⟩,x,(u2.tok T).pos⟩:=by
 unfold restS at h
 obtain ⟨⟨k,u1⟩,h1,h⟩:=bind_some' h
 obtain ⟨⟨b,u2⟩,h2,h⟩:=bind_some' h
 cases b with
 | true=>cases h
 | false =>
  simp only [Bool.false_eq_true,if_false] at h
  obtain ⟨⟨x,u3⟩,h3,h⟩:=bind_some' h
  obtain ⟨⟨l,u4⟩,h4,h⟩:=bind_some' h
  simp only [Option.some.injEq,Prod.mk.injEq] at h
  obtain ⟨rfl,rfl⟩:=h
  exact ⟨k,u1,h1,u2,h2,x,u3,h3,l,h4,rfl⟩
theorem Now.other {B:Hp} (q:Now L tb cap pb h B st) {b:Nat} (c:Blk) (hb:h.n≤b) (hp:pb < b) (ht:tb≠b) (hn:b < B.n):Now L tb cap pb h (B.set b c) st:=by
 refine ⟨⟨?_,?_,q.p.fits,q.p.rw,q.p.ne⟩,set_dom q.d hn,q.o.1,fun i hi hne=>?_⟩
 ·show (if tb=b then some c else B.m tb)=_;rw [if_neg ht];exact q.p.tok
 ·show (if pb=b then some c else B.m pb)=_;rw [if_neg (by omega)];exact q.p.par
 ·show (if i=b then some c else B.m i)=_;rw [if_neg (by omega)];exact q.o.2 i hi hne
theorem set_uptoB {H:Hp} {sb lo:Nat} {c:Blk} (hlt:sb < lo):Upto lo H (H.set sb c):=fun i hi b hb=>by
 show (if i=sb then some c else H.m i)=_
 rw [if_neg (by omega)];exact hb
def RestQ (L:List TokS) (tb cap pb:Nat) (h:Hp) (d:DeclS) (t:PS) (v:Value) (h':Hp):Prop:=∃ A c,v=.agg ⟨declC d A c⟩∧(d.ty.dims=[]→A=none∧c=0)∧RowAt h' h.n 3 A (dimsC d.ty.dims)∧ParAt L tb cap pb h' t∧OffP pb h h'
theorem rest_ex (hL:ToksOK L) (p:ParAt L tb cap pb h st) {n:Nat} {s:SpecS} {d:DeclS} {t:PS} (hs:restS (tokN L) n s st=some (d,t)):EX Tryz.prog 63 [ptrC pb,.agg ⟨specC s⟩] h (RestQ L tb cap pb h d t):=by
 obtain ⟨k,u1,h1,u2,h2,x,u3,h3,l,h4,rfl⟩:=rest_iff hs
 refine EX.intro (fn:=Tryz.f63) (c:=(Tryz.f63.body.getD .skip)) Tryz.func63 (by kernel_rfl) Tryz.ntmps63 (by kernel_rfl) fun π s0=>?_
 conv=>arg 2;whnf
 have q:Now L tb cap pb h h st:=⟨p,s0.dom,OffP.refl pb h⟩
 have hpb:=s0.dom _ _ p.par
 repeat (first|refine Y2u ?_|refine Y4k ?_|((with_reducible apply (RS.callWB (g0:=108) []));(iterate 3 exact rfl);exact q.p.par;exact q.d _ _ q.p.par;exact fun H hH=>EX.tf (q.p.sees q.d hH) (by simp) (stars_ex hL (q.p.sees q.d hH) h1);(have q:=q.set (stars_fits h1 q.p.fits));(try (rw [set_set];rw [set_set] at q)))|((with_reducible apply (RS.callWB (g0:=66) []));(iterate 3 exact rfl);exact q.p.par;exact q.d _ _ q.p.par;exact fun H hH=>take_tf hL (q.p.sees q.d hH) _ h2;(have q:=q.set (q.p.fits.take h2));(try (rw [set_set];rw [set_set] at q)))|((with_reducible apply (RS.callWB (g0:=107) []));(iterate 3 exact rfl);exact q.p.par;exact q.d _ _ q.p.par;exact fun H hH=>EX.tf (q.p.sees q.d hH) (by simp) (name_ex hL (q.p.sees q.d hH) h3);(have q:=q.set (q.p.fits.name h3));(try (rw [set_set];rw [set_set] at q)))|refine Y26 ?_|refine Yg ?_|refine Y2 ?_|refine Y9 ?_|refine Ya ?_|refine Y0 ?_|refine Y1d ?_|refine Y1 ?_|refine Y3 ?_)
 refine RS.absorbX fun G π2 a=>?_
 have hm1:G.m (π 1)=some ⟨⟨declC zeroDecl none 0⟩,116⟩:=a.loc 1 (Nat.lt_trans (Nat.lt_succ_self 1) (Nat.lt_succ_self 2))
 have hm2:G.m (π 2)=some ⟨⟨declC ⟨⟨s,k,[]⟩,x,(u2.tok (tokN L)).pos⟩ none 0⟩,116⟩:=a.loc 2 (Nat.lt_succ_self 2)
 have hl1:h.n≤π 1:=a.lo 1 (Nat.lt_trans (Nat.lt_succ_self 1) (Nat.lt_succ_self 2))
 have hl2:h.n≤π 2:=a.lo 2 (Nat.lt_succ_self 2)
 have hne:π 1≠π 2:=fun e=>absurd (a.inj 1 2 (Nat.lt_trans (Nat.lt_succ_self 1) (Nat.lt_succ_self 2)) (Nat.lt_succ_self 2) e) (by decide)
 have q:Now L tb cap pb h G _:=⟨(q.ends a).1,a.dom,(q.ends a).2⟩
 have hn1:=q.d _ _ hm1
 have hn2:=q.d _ _ hm2
 have hrw:rwM≤h.n:=s0.rw
 have htb:=s0.dom _ _ p.tok
 simp only [Nat.zero_add,Nat.reduceAdd]
 generalize π 1=b1 at *
 generalize π 2=b2 at *
 clear a
 have hlo3:b1 < G.n:=hn1
 repeat (first|((with_reducible apply (RS.callEx (g0:=109)));(iterate 3 exact rfl);intro B1 hB1;have hlo1:=Nat.le_trans q.o.1 hB1.le;refine ⟨_,dims_ex hL (q.p.absd q.d hB1) h4,?_⟩;rintro v H1 π1 ⟨A,c,rfl,hz,hr,p1,o1⟩ sp1 hle1;have hm1:=(((OffP.refl pb _).abs hB1).trans o1).keep hm1 hn1 (by omega);have hm2:=(((OffP.refl pb _).abs hB1).trans o1).keep hm2 hn2 (by omega);have q:Now L tb cap pb h H1 _:=⟨p1,sp1.dom,(q.o.abs hB1).trans o1⟩)|((with_reducible apply (RS.storeB (cs':=declC ⟨⟨s,k,l⟩,x,(u2.tok (tokN L)).pos⟩ A c)));(iterate 3 exact rfl);exact hm2;exact sp1.dom _ _ hm2;exact Nat.le_trans hrw hl2;exact Nat.le_of_ble_eq_true rfl;iterate 3 exact rfl)|((with_reducible apply RS.loadNB);(iterate 3 exact rfl);exact if_pos rfl;exact sp1.dom _ _ hm2;exact Nat.le_of_ble_eq_true rfl;exact (show takeV 0 11 (declC ⟨⟨s,k,l⟩,x,(u2.tok (tokN L)).pos⟩ A c)=declC ⟨⟨s,k,l⟩,x,(u2.tok (tokN L)).pos⟩ A c from rfl))|((with_reducible apply (RS.storeB (cs':=declC ⟨⟨s,k,l⟩,x,(u2.tok (tokN L)).pos⟩ A c)));(iterate 3 exact rfl);exact (if_neg hne).trans hm1;exact sp1.dom _ _ hm1;exact Nat.le_trans hrw hl1;exact Nat.le_of_ble_eq_true rfl;iterate 3 exact rfl)|refine Y65 ?_|refine Y0 ?_|refine Yq ?_|refine Y1 ?_)
 have dc:(116:TypeId)=116:=rfl
 refine endsK_ret _ (.cons (.baseN (vs:=declC ⟨⟨s,k,l⟩,x,(u2.tok (tokN L)).pos⟩ A c) rfl (if_pos rfl) (Nat.le_of_ble_eq_true rfl) rfl) .nil) fun B' a=>?_
 have q:=(q.other ⟨⟨declC ⟨⟨s,k,l⟩,x,(u2.tok (tokN L)).pos⟩ A c⟩,116⟩ hl2 (by omega) (by omega) (sp1.dom _ _ hm2))
 have e:=(q.other ⟨⟨declC ⟨⟨s,k,l⟩,x,(u2.tok (tokN L)).pos⟩ A c⟩,116⟩ hl1 (by omega) (by omega) (sp1.dom _ _ hm1)).ends a
 refine ⟨A,c,rfl,hz,?_,e.1,e.2⟩
 exact ((hr.up (lo':=B1.n) (set_uptoB (Nat.lt_of_lt_of_le hn2 hB1.le)) (Nat.le_refl _)).up (set_uptoB (Nat.lt_of_lt_of_le hn1 hB1.le)) (Nat.le_refl _)).up (fun i _ c hc=>a.up i c hc) hlo1
theorem rest_ex0 (hL:ToksOK L) (p:ParAt L tb cap pb h st) {n:Nat} {s:SpecS} {d:DeclS} {t:PS} (hs:restS (tokN L) n s st=some (d,t)) (hd:d.ty.dims=[]):EX Tryz.prog 63 [ptrC pb,.agg ⟨specC s⟩] h (StepQ L tb cap pb h (.agg ⟨declC d none 0⟩) t) :=
 fun s hb=>by
  obtain ⟨v,h',e1,A,c,rfl,hz,hr,p',o'⟩:=rest_ex hL p hs s hb
  obtain ⟨rfl,rfl⟩:=hz hd
  exact ⟨_,h',e1,rfl,p',o'⟩
end
end Go.Proofs.YtgpigfcagppohaaGreatDoor
