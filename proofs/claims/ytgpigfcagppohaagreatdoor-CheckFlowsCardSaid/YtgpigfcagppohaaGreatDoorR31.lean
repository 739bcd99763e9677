/-
  What the functions that the law reaches compute,told by plain data;it holds of programs that pass the check of right form and are light.
-/
import Derived.Shelf.Small.Strs
import Derived.Shelf.Strings.Search1
import Derived.Shelf.Strings.Search2
import Derived.Shelf.Strings.Search3
import Derived.Test.YtgpigfcagppohaaGreatDoorProg
import Derived.Test.YtgpigfcagppohaaGreatDoorR1
import Derived.Test.YtgpigfcagppohaaGreatDoorR30
import Derived.Test.YtgpigfcagppohaaGreatDoorR4
set_option linter.unusedVariables false
set_option linter.unusedSimpArgs false
namespace Go.Proofs.YtgpigfcagppohaaGreatDoor
open Go.AH
attribute [local irreducible] W RS WR
theorem ChkW.butF {B B':Hp} {q:Pl} {F Fs:Value} {mn:Int} {v:CS} (w:ChkW B q F Fs mn v) {fb:Nat} {cs:Array Value} (hb:B.m fb=some ⟨cs,134⟩) (up:∀ i c,i≠fb→B.m i=some c→B'.m i=some c):ChkW B' q F Fs mn v:=by
 have up2:∀ i c,B.m i=some c→Nat.beq c.elem 134=false→B'.m i=some c:=fun i c hi he=>up i c (elem_ne hi hb he) hi
 have kx:KeptX B B':=fun i c hi hk=>up2 i c hi (by
  cases h:Nat.beq c.elem 134 with
  | false=>rfl
  | true=>rw [Nat.eq_of_beq_eq_true h] at hk;exact absurd hk (by decide))
 refine ⟨up2 _ _ w.c rfl,up2 _ _ w.p rfl,up2 _ _ w.t rfl,fun hne=>?_,?_,w.cw,w.pw,w.nl,w.gn⟩
 ·obtain ⟨gs,r⟩:=w.g hne
  exact ⟨gs,r.up ((up2 _ _ r.m rfl).trans r.m.symm) fun d c=>GlRow.up kx⟩
 ·rcases w.n with h|⟨b,cs,st,h1,h2,h3,h4,h5⟩
  ·exact .inl h
  ·exact .inr ⟨b,cs,st,h1,h2,up2 _ _ h3 rfl,h4,h5⟩
section
variable {h:Hp} {st':CS} {u:UnitS} {ug uf:Nat} {gs fs:List (List Value)}
structure PreF (B:Hp) (q:Pl) (st:CS):Prop where
 w:ChkW B q (.pointer none) (.slice (some ⟨q.fb,0,none⟩) 1 (capOf 14)) 0 st
 f:B.m q.fb=some ⟨⟨fnC q st (.pointer none)⟩,134⟩
 r:B.m q.rb=some ⟨⟨intC st.ret⟩,71⟩
 fw:rwM≤q.fb
 na:q.na=none
 nc:q.nc=0
 nm:st.nm=[]
 dp:st.depth=0
 lc:st.lc=[]
def FunQ2 (q:Pl) (h:Hp) (st':CS) (v:Value) (h':Hp):Prop:=v=.tuple ⟨[]⟩∧KeptX h h'∧∃ lb na nc,ChkW h' { q with lb:=lb,na:=na,nc:=nc } (ptrC q.fb) (.slice (some ⟨q.fb,0,none⟩) 1 (capOf 14)) 0 st'
theorem function_ex {q:Pl} {st:CS} {N n:Nat} {f:FuncDS} {b:BodyS} (hs:stmtM N n f.body st=some (b,st')) (hf:st.fk=0) (hlc:LcOK st) (hp:f.params=[]) (c0:PreF h q st) (hU:UnitAt h q.ub u ug gs uf fs) (hu:u.funcs=[f]):EX Tryz.prog 22 [ptrC q.cb,.int .i64 0] h (FunQ2 q h st'):=by
 obtain ⟨cb,ub,pb,tb,gb,fb,lb,rb,na,nc,fp⟩:=q
 obtain ⟨fk,fa,gl,data,ret,lc,nm,depth⟩:=st
 obtain ⟨cw,cf,cr,cfw,cna,cnc,cnm,cdp,clc⟩:=c0
 dsimp only at cna cnc cnm cdp clc hU hf cr cf cfw
 subst cna;subst cnc;subst cnm;subst cdp;subst clc
 refine EX.intro (fn:=Tryz.f22) (c:=(Tryz.f22.body.getD .skip)) Tryz.func22 (by kernel_rfl) Tryz.ntmps22 (by kernel_rfl) fun π s0=>?_
 conv=>arg 2;whnf
 have hc0:=cw.c
 have hp0:=cw.p
 have hum:=hU.m
 obtain ⟨c,hfs⟩:∃ c,fs=[c]:=by
  have h1:=hU.fl
  rw [hu] at h1
  match fs,h1 with
  | [c],_=>exact ⟨c,rfl⟩
 subst hfs
 obtain ⟨A,k,bb,d,hnm,rfl,hsa⟩:=hU.has 0 c f rfl (by rw [hu];rfl)
 rw [hp] at *
 have hne:[funcDC d A ([]:List DeclS).length k (ptrC bb)]≠[]:=fun e=>by cases e
 have hsw:some (Value.slice (rA uf [funcDC d A 0 k (ptrC bb)]) 1 (rK 13 [funcDC d A 0 k (ptrC bb)]))=some (.slice (some ⟨uf,0,none⟩) 1 (capOf 13)):=rfl
 have hfm:=hU.f hne
 ((with_reducible apply W.seq);repeat (first|((with_reducible apply RS.load1B);(iterate 3 exact rfl);first|exact hc0;exact s0.dom _ _ hc0;exact rfl|exact hp0;exact s0.dom _ _ hp0;exact rfl)|((with_reducible apply (RS.indexAddrS (n:=0)));(iterate 5 exact rfl);exact Nat.lt_succ_self 0)|((with_reducible apply (RS.storeB (cs':=(ckC (⟨cb,ub,pb,tb,gb,fb,lb,rb,none,0,fp⟩:Pl) (ptrC fb) ⟨fk,fa,gl,data,ret,[],[],0⟩))));(iterate 3 exact rfl);exact hc0;exact s0.dom _ _ hc0;exact cw.cw;exact Nat.le_of_ble_eq_true rfl;iterate 3 exact rfl)|refine Yf ?_|refine Y0 ?_|refine Y1 ?_|refine Ym ?_))
 ((with_reducible apply W.seq);repeat (first|((with_reducible apply (RS.storeB (cs':=(ckC (⟨cb,ub,pb,tb,gb,fb,lb,rb,none,0,fp⟩:Pl) (ptrC fb) ⟨fk,fa,gl,data,ret,[],[],0⟩))));(iterate 3 exact rfl);exact if_pos rfl;exact s0.dom _ _ hc0;exact cw.cw;exact Nat.le_of_ble_eq_true rfl;iterate 3 exact rfl)|refine Yf ?_|refine Y0 ?_|refine Y1 ?_|refine Ym ?_))
 refine W.absorbX fun B π1 a0=>?_
 have hcB:B.m cb=some ⟨⟨(ckC (⟨cb,ub,pb,tb,gb,fb,lb,rb,none,0,fp⟩:Pl) (ptrC fb) ⟨fk,fa,gl,data,ret,[],[],0⟩)⟩,66⟩:=a0.up _ _ (if_pos rfl)
 have hup:∀ i c,i≠cb→h.m i=some c→B.m i=some c:=fun i c hne hi=>a0.up _ _ ((if_neg hne).trans ((if_neg hne).trans ((if_neg hne).trans ((if_neg hne).trans ((if_neg hne).trans hi)))))
 have hdB:=a0.dom
 have huB:=hup _ _ (elem_ne hum hc0 rfl) hum
 have hfB:=hup _ _ (elem_ne hfm hc0 rfl) hfm
 obtain ⟨htk,hln⟩:=flatT hU.fs13 (i:=0) (x:=funcDC d A 0 k (ptrC bb)) rfl (o:=0) (n:=13) (by omega)
 ((with_reducible apply W.seq);repeat (first|((with_reducible apply RS.load1B);(iterate 3 exact rfl);first|exact hcB;exact hdB _ _ hcB;exact rfl|exact huB;exact hdB _ _ huB;exact rfl)|refine Y5o ?_|((with_reducible apply (RS.loadNB (vs:=funcDC d A 0 k (ptrC bb))));(iterate 3 exact rfl);exact hfB;exact hdB _ _ hfB;exact hln;exact htk)|refine Yf ?_|refine Y2 ?_|refine Y9 ?_|refine Y0 ?_|refine Y1 ?_|refine Ym ?_))
 ((with_reducible apply W.seq);repeat (fail))
 ((with_reducible apply W.seq);repeat (first|refine Y5g ?_|refine Y1l ?_|refine Y33 ?_|refine Yh ?_|refine Y0 ?_|refine Y1 ?_|refine Y24 ?_))
 ((with_reducible apply W.seq);repeat (first|refine Y4 ?_|refine Y0 ?_|refine Y1 ?_|refine Ym ?_))
 repeat (first|refine Y3 ?_|(with_reducible apply W.exit)|(with_reducible apply thenK_e)|(with_reducible apply roundR_e)|refine Yn ?_|refine Ym ?_|(with_reducible apply W.seq))
 refine W.absorbX fun B2 π2 a2=>?_
 have h4m:B2.m (π1 0)=some ⟨⟨funcDC d A 0 k (ptrC bb)⟩,130⟩:=a2.loc 0 (Nat.lt_succ_self 0)
 have hc2:=a2.up _ _ hcB
 have hup2:∀ i c,i≠cb→h.m i=some c→B2.m i=some c:=fun i c hne hi=>a2.up _ _ (hup i c hne hi)
 have hd2:=a2.dom
 generalize π1 0=p4 at *
 have kx2:KeptX h B2:=fun i c hi hk=>hup2 i c (fun e=>by subst e;rw [hc0] at hi;cases hi;exact absurd (show keptC 66=true from hk) (by decide)) hi
 have w2:ChkF B2 (⟨cb,ub,pb,tb,gb,fb,lb,rb,none,0,fp⟩:Pl) (⟨fk,fa,gl,data,ret,[],[],0⟩:CS):=⟨⟨hc2,hup2 _ _ (elem_ne hp0 hc0 rfl) hp0,hup2 _ _ (elem_ne cw.t hc0 rfl) cw.t,fun hne=>(by obtain ⟨gr,r⟩:=cw.g hne;exact ⟨gr,r.up ((hup2 _ _ (elem_ne r.m hc0 rfl) r.m).trans r.m.symm) fun d c=>GlRow.up kx2⟩),.inl ⟨rfl,rfl,rfl⟩,cw.cw,cw.pw,cw.nl,cw.gn⟩,hup2 _ _ (elem_ne cf hc0 rfl) cf,hup2 _ _ (elem_ne cr hc0 rfl) cr,fun e=>absurd rfl e,cfw,Nat.zero_le _⟩
 have hsa2:=hsa.upX kx2
 have hfn:=hd2 _ _ w2.f
 have hfw:=w2.fw
 repeat (first|((with_reducible apply RS.loadS);(iterate 3 exact rfl);exact hc2;exact hd2 _ _ hc2;exact rfl)|((with_reducible apply RS.load1B);(iterate 3 exact rfl);exact h4m;exact hd2 _ _ h4m;exact rfl)|((with_reducible apply (RS.callYG (g0:=43) (fun _=>true) (some (cb,4,ptrC fb))));(iterate 3 exact rfl);intro B3 hde3 hB3;have hax:=cstmt_ok N n (⟨cb,ub,pb,tb,gb,fb,lb,rb,none,0,fp⟩:Pl) (⟨fk,fa,gl,data,ret,[],[],0⟩:CS) f.body b st' bb 0 B3 hs hf hlc (w2.old hd2 ⟨hB3.le,hB3.old⟩) (hsa2.upX (Absb.kx hB3));refine ⟨_,hax,(fun _ _ _ i _ hc=>by cases hc),(fun v H' hq sp hle q hq2=>by cases hq2;obtain ⟨ob3,lb3,na3,nc3,rfl,c3,kk3⟩:=hq;exact ⟨sp.dom _ _ c3.w.c,_,c3.w.c,rfl⟩),?_⟩;rintro v3 H3 k3 l3 ⟨ob3,lb3,na3,nc3,rfl,c3,kk3⟩ sp3 hle3 hm3 hden3 hwf3 hk3;have kx3:KeptX h H3:=kx2.trans ((Absb.kx hB3).trans kk3))|((with_reducible apply (RS.storeB (cs':=fnC { (⟨cb,ub,pb,tb,gb,fb,lb,rb,none,0,fp⟩:Pl) with lb:=lb3,na:=na3,nc:=nc3 } st' (ptrC ob3))));(iterate 3 exact rfl);exact (if_pos hfn).trans c3.f;exact hfn;exact hfw;exact Nat.le_of_ble_eq_true rfl;iterate 3 exact rfl)|((with_reducible apply (RS.nilPS mixed [(3,4),(2,4),(1,4),(0,4),(4,5),(3,5),(2,5),(1,5),(0,5),(4,6),(3,6),(2,6),(1,6),(0,6),(3,7),(2,7),(1,7),(0,7)]));kernel_rfl;(repeat (refine ⟨fun x y hx hy=>(by obtain rfl:=Option.some.inj hx;obtain rfl:=Option.some.inj hy;first|exact pairR_free rfl rfl rfl rfl rfl rfl rfl (Nat.zero_le _) rfl|(unfold pairR crossB;simp [recYG,recYE,recS,recP,recN,recWB,noneB,outO,outR,memL])),?_⟩));exact trivial;exact sbN_side (by repeat' (first|exact trivial|exact rfl|apply And.intro));(repeat (refine ⟨fun x y hx hy=>(by obtain rfl:=Option.some.inj hx;obtain rfl:=Option.some.inj hy;exact ⟨(by first|exact fun q hq=>.inl ⟨rfl,rfl⟩|exact fun q hq=>.inr hq|exact fun q hq=>(by have hq':(none:Option (Nat × Nat × Value))=some q:=hq;cases hq')),fun q hq=>(by have hq':(none:Option (Nat × Nat × Value))=some q:=hq;cases hq')⟩),?_⟩));exact trivial)|refine Yf ?_|refine Y1 ?_)
 exact endsK_normal _ .nil fun B' a=>⟨rfl,kx3.trans fun i c hi hk=>cutC_up hden3 a (Nat.le_refl _) (fun _ _=>rfl) i c (fun e=>by subst e;rw [show H3.m _=_ from c3.f] at hi;cases hi;exact absurd (show keptC 134=true from hk) (by decide)) hi,lb3,na3,nc3,c3.w.butF c3.f (cutC_up hden3 a (Nat.le_refl _) fun _ _=>rfl)⟩
end
theorem digit_tf (c:Int) (h:Hp):TF Tryz.prog 102 ⟨[.int .u8 c]⟩ h (.bool (digitI c)) h:=by
 refine TF.still (fn:=Tryz.f102) (c:=(Tryz.f102.body.getD .skip)) Tryz.func102 (by kernel_rfl) Tryz.ntmps102 (by kernel_rfl) (by simp) ?_
 conv=>arg 2;whnf
 repeat (first|refine Y7 ?_|refine Yo ?_|refine Y0 ?_|refine Y1x ?_|refine Y1 ?_)
 refine RS.splitG rfl rfl (fun h1=>?_) (fun h1=>?_)
 all_goals repeat (first|refine Y7 ?_|refine Yd ?_|refine Yc ?_|refine Yo ?_|refine Yk ?_|refine Y0 ?_|(with_reducible first|apply W.ret|apply thenK_n))
 all_goals refine endsK_ret _ (.cons (.tmp rfl) .nil) ⟨rfl,?_⟩
 all_goals simp only [resultOf,Value.bool.injEq,digitI]
 all_goals (rw [Bool.eq_iff_iff];simp at *;try omega)
theorem letter_tf (c:Int) (h:Hp):TF Tryz.prog 101 ⟨[.int .u8 c]⟩ h (.bool (letterI c)) h:=by
 refine TF.still (fn:=Tryz.f101) (c:=(Tryz.f101.body.getD .skip)) Tryz.func101 (by kernel_rfl) Tryz.ntmps101 (by kernel_rfl) (by simp) ?_
 conv=>arg 2;whnf
 repeat (first|refine Y7 ?_|refine Yo ?_|refine Y0 ?_|refine Y1x ?_|refine Y1 ?_)
 repeat' ((refine RS.splitG rfl rfl (fun h1=>?_) (fun h1=>?_))<;>repeat (first|refine Y7 ?_|refine Yd ?_|refine Yc ?_|refine Yo ?_|refine Yk ?_|refine Y0 ?_|(with_reducible first|apply W.ret|apply thenK_n)))
 all_goals refine endsK_ret _ (.cons (.tmp rfl) .nil) ⟨rfl,?_⟩
 all_goals simp only [resultOf,Value.bool.injEq,letterI]
 all_goals (rw [Bool.eq_iff_iff];simp at *;try omega)
theorem wrap_u8 {n:Int} (h0:0≤n) (h1:n≤255):IntKind.u8.wrap n=n:=by simp only [IntKind.wrap,IntKind.signed,IntKind.bits];simp;omega
theorem wrap_u64 {n:Int} (h0:0≤n) (h1:n≤18446744073709551615):IntKind.u64.wrap n=n:=by simp only [IntKind.wrap,IntKind.signed,IntKind.bits];simp;omega
theorem value_tf (c:Int) (h0:0≤c) (h1:c≤255) (h:Hp):TF Tryz.prog 143 ⟨[.int .u8 c]⟩ h (.int .u64 (valueI c)) h:=by
 refine TF.still (fn:=Tryz.f143) (c:=(Tryz.f143.body.getD .skip)) Tryz.func143 (by kernel_rfl) Tryz.ntmps143 (by kernel_rfl) (by simp) ?_
 conv=>arg 2;whnf
 repeat' (first|((with_reducible apply RS.callP);(iterate 3 exact rfl);exact fun H=>(digit_tf _ H);exact Nm_free (by simp))|((with_reducible first|apply RS.move|apply RS.assign|apply RS.convI);iterate 3 exact rfl)|refine Yd ?_|refine Yc ?_|refine Y6 ?_|refine Y4 ?_|refine Yo ?_|refine Y4q ?_|refine Yk ?_|refine Y0 ?_|refine Y1m ?_|refine Y1 ?_|refine Y3 ?_|((refine YD ?_ ?_)<;>intro _)|((refine YG ?_ ?_)<;>intro _)|((refine YC ?_ ?_)<;>intro _)|((refine YN ?_ ?_)<;>intro _))
 all_goals refine endsK_ret _ (.cons (.tmp rfl) .nil) ⟨rfl,?_⟩
 all_goals simp only [resultOf,Value.int.injEq,true_and,valueI]
 all_goals simp only [digitI,Bool.and_eq_true,decide_eq_true_eq,Bool.and_eq_false_iff,decide_eq_false_iff_not,ge_iff_le] at *
 all_goals (try rw [wrap_u8 (by omega) (by omega)])
 all_goals (try rw [wrap_u64 (n:=c - 97) (by omega) (by omega)])
 all_goals (try rw [wrap_u64 (n:=c - 65) (by omega) (by omega)])
 all_goals (try rw [wrap_u64 (by omega) (by omega)])
 all_goals (repeat' split)
 all_goals omega
end Go.Proofs.YtgpigfcagppohaaGreatDoor
namespace Go.Proofs
open Go.Shelf
def Tryz.lays137_ren:Go.Shelf.Ren:=⟨fun|137=>99|217=>141|266=>165|n=>n,fun|9=>9|5=>5|3=>3|n=>n,fun|n=>n⟩
theorem Tryz.lays137:Go.Proofs.Lays.n137 Tryz.prog Tryz.lays137_ren:={
 mixed:=by kernel_rfl
 f137:=Tryz.func99.trans (congrArg some (by kernel_rfl))
 f217:=Tryz.func141.trans (congrArg some (by kernel_rfl))
 f266:=Tryz.func165.trans (congrArg some (by kernel_rfl))
 t3:=Tryz.underlying3
 a3:=Tryz.isAgg3
 z3:=Tryz.sizeOf3
 v3:=Tryz.zeroValue3
 t5:=Tryz.underlying5
 a5:=Tryz.isAgg5
 z5:=Tryz.sizeOf5
 v5:=Tryz.zeroValue5
 t9:=Tryz.underlying9
 a9:=Tryz.isAgg9
 z9:=Tryz.sizeOf9
 v9:=Tryz.zeroValue9 }
open Go.RowKit in
theorem Tryz.strings_IndexByte (s:ByteArray) (c:Int) (w:World) :
 Calls Tryz.prog 99 #[.string s,.int .u8 c] w fun e w'=>e=.returned (.int .i64 (Lib.indexByte s.data.toList c.toNat.toUInt8))∧w'=w:=Any.strings_IndexByte Tryz.lays137 s c w
def Tryz.lays217_ren:Go.Shelf.Ren:=⟨fun|217=>141|266=>165|n=>n,fun|9=>9|5=>5|3=>3|n=>n,fun|n=>n⟩
open Go.RowKit Go.Lib in
def Tryz.lays224_ren:Go.Shelf.Ren:=⟨fun|224=>167|n=>n,fun|3=>3|n=>n,fun|n=>n⟩
open Go.RowKit Go.Lib in
def Tryz.lays314_ren:Go.Shelf.Ren:=⟨fun|314=>189|n=>n,fun|9=>9|51=>272|3=>3|4=>4|5=>5|46=>268|n=>n,fun|n=>n⟩
open Go.RowKit Go.Lib in
def Tryz.lays267_ren:Go.Shelf.Ren:=⟨fun|267=>168|314=>189|n=>n,fun|9=>9|3=>3|146=>282|51=>272|4=>4|5=>5|46=>268|n=>n,fun|n=>n⟩
open Go.RowKit Go.Lib in
def Tryz.lays219_ren:Go.Shelf.Ren:=⟨fun|219=>142|217=>141|225=>166|224=>167|267=>168|266=>165|314=>189|n=>n,fun|9=>9|3=>3|4=>4|5=>5|46=>268|146=>282|51=>272|n=>n,fun|1=>1|n=>n⟩
open Go.RowKit Go.Lib in
def Tryz.lays143_ren:Go.Shelf.Ren:=⟨fun|143=>100|219=>142|217=>141|225=>166|224=>167|267=>168|266=>165|314=>189|n=>n,fun|9=>9|3=>3|4=>4|5=>5|46=>268|146=>282|51=>272|n=>n,fun|1=>1|n=>n⟩
theorem Tryz.lays143:Go.Proofs.Lays.n143 Tryz.prog Tryz.lays143_ren:={
 mixed:=by kernel_rfl
 f143:=Tryz.func100.trans (congrArg some (by kernel_rfl))
 f217:=Tryz.func141.trans (congrArg some (by kernel_rfl))
 f219:=Tryz.func142.trans (congrArg some (by kernel_rfl))
 f224:=Tryz.func167.trans (congrArg some (by kernel_rfl))
 f225:=Tryz.func166.trans (congrArg some (by kernel_rfl))
 f266:=Tryz.func165.trans (congrArg some (by kernel_rfl))
 f267:=Tryz.func168.trans (congrArg some (by kernel_rfl))
 f314:=Tryz.func189.trans (congrArg some (by kernel_rfl))
 t3:=Tryz.underlying3
 a3:=Tryz.isAgg3
 z3:=Tryz.sizeOf3
 v3:=Tryz.zeroValue3
 t4:=Tryz.underlying4
 a4:=Tryz.isAgg4
 z4:=Tryz.sizeOf4
 v4:=Tryz.zeroValue4
 t5:=Tryz.underlying5
 a5:=Tryz.isAgg5
 z5:=Tryz.sizeOf5
 v5:=Tryz.zeroValue5
 t9:=Tryz.underlying9
 a9:=Tryz.isAgg9
 z9:=Tryz.sizeOf9
 v9:=Tryz.zeroValue9
 t46:=Tryz.underlying268
 a46:=Tryz.isAgg268
 z46:=Tryz.sizeOf268
 v46:=Tryz.zeroValue268
 t51:=Tryz.underlying272
 a51:=Tryz.isAgg272
 z51:=Tryz.sizeOf272
 v51:=Tryz.zeroValue272
 t146:=Tryz.underlying282
 a146:=Tryz.isAgg282
 z146:=Tryz.sizeOf282
 v146:=Tryz.zeroValue282
 g1:=by kernel_rfl }
open Go.RowKit Go.Lib in
theorem Tryz.strings_Index (s sub:ByteArray) (m:Int) (w:World) (hs:s.size < 4294967281) (hm:w.cell? ⟨1,0,none⟩=some (.int .i64 m)) :
 Calls Tryz.prog 100 #[.string s,.string sub] w fun e w'=>e=.returned (.int .i64 (Lib.index s.data.toList sub.data.toList))∧w'=w:=Any.strings_Index Tryz.lays143 s sub m w hs hm
def Tryz.lays144_ren:Go.Shelf.Ren:=⟨fun|144=>103|143=>100|219=>142|217=>141|225=>166|224=>167|267=>168|266=>165|314=>189|n=>n,fun|9=>9|4=>4|3=>3|5=>5|46=>268|146=>282|51=>272|n=>n,fun|1=>1|n=>n⟩
theorem Tryz.lays144:Go.Proofs.Lays.n144 Tryz.prog Tryz.lays144_ren:={
 mixed:=by kernel_rfl
 f143:=Tryz.func100.trans (congrArg some (by kernel_rfl))
 f144:=Tryz.func103.trans (congrArg some (by kernel_rfl))
 f217:=Tryz.func141.trans (congrArg some (by kernel_rfl))
 f219:=Tryz.func142.trans (congrArg some (by kernel_rfl))
 f224:=Tryz.func167.trans (congrArg some (by kernel_rfl))
 f225:=Tryz.func166.trans (congrArg some (by kernel_rfl))
 f266:=Tryz.func165.trans (congrArg some (by kernel_rfl))
 f267:=Tryz.func168.trans (congrArg some (by kernel_rfl))
 f314:=Tryz.func189.trans (congrArg some (by kernel_rfl))
 t3:=Tryz.underlying3
 a3:=Tryz.isAgg3
 z3:=Tryz.sizeOf3
 v3:=Tryz.zeroValue3
 t4:=Tryz.underlying4
 a4:=Tryz.isAgg4
 z4:=Tryz.sizeOf4
 v4:=Tryz.zeroValue4
 t5:=Tryz.underlying5
 a5:=Tryz.isAgg5
 z5:=Tryz.sizeOf5
 v5:=Tryz.zeroValue5
 t9:=Tryz.underlying9
 a9:=Tryz.isAgg9
 z9:=Tryz.sizeOf9
 v9:=Tryz.zeroValue9
 t46:=Tryz.underlying268
 a46:=Tryz.isAgg268
 z46:=Tryz.sizeOf268
 v46:=Tryz.zeroValue268
 t51:=Tryz.underlying272
 a51:=Tryz.isAgg272
 z51:=Tryz.sizeOf272
 v51:=Tryz.zeroValue272
 t146:=Tryz.underlying282
 a146:=Tryz.isAgg282
 z146:=Tryz.sizeOf282
 v146:=Tryz.zeroValue282
 g1:=by kernel_rfl }
open Go.RowKit Go.Lib in
theorem Tryz.strings_Contains (s sub:ByteArray) (m:Int) (w:World) (hs:s.size < 4294967281) (hm:w.cell? ⟨1,0,none⟩=some (.int .i64 m)) :
 Calls Tryz.prog 103 #[.string s,.string sub] w fun e w'=>e=.returned (.bool (Lib.contains s.data.toList sub.data.toList))∧w'=w:=Any.strings_Contains Tryz.lays144 s sub m w hs hm
end Go.Proofs
