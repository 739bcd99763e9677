/-
  What the functions that the law reaches compute,told by plain data;it holds of programs that pass the check of right form and are light.
-/
import Derived.Lib.AppendStr
import Derived.Lib.Hide
import Derived.Test.YtjhloakacicdiaaDoorR1
import Derived.Test.YtjhloakacicdiaaDoorR10
import Derived.Test.YtjhloakacicdiaaDoorR18
import Derived.Test.YtjhloakacicdiaaDoorR3
import Derived.Test.YtjhloakacicdiaaDoorR9
import Derived.Test.YtjhloakacicdiaaDoorS2
import Derived.WalkKit
import Derived.WalkSpells
set_option linter.unusedVariables false
set_option linter.unusedSimpArgs false
namespace Go.Proofs.YtjhloakacicdiaaDoor
open Go.AH
attribute [local irreducible] W RS
def byB (d:List Int):ByteArray:=⟨(d.map fun z=>UInt8.ofNat z.toNat).toArray⟩
def itoaS (n:Int):ByteArray :=
 if 0≤n∧n < 100 then ⟨(Lib.decDigits n.toNat).toArray⟩
 else if n < 0 then byB ((((fmtS 1 (digS n.natAbs) n.natAbs (List.replicate 24 0)).set 0 45).drop 0).take (1+digS n.natAbs))
 else byB (((fmtS 1 (digS n.natAbs) n.natAbs (List.replicate 24 0)).drop 1).take (digS n.natAbs))
theorem neg64 {n:Int} (h0:-9223372036854775808≤n) (h1:n < 0):IntKind.u64.wrap (0 - IntKind.u64.wrap n)=((n.natAbs:Nat):Int):=by
 simp only [IntKind.wrap,IntKind.signed,IntKind.bits];simp;omega
theorem pos64 {n:Int} (h0:0≤n) (h1:n≤9223372036854775807):IntKind.u64.wrap n=((n.natAbs:Nat):Int):=by
 simp only [IntKind.wrap,IntKind.signed,IntKind.bits];simp;omega
theorem RS.convTo {P:Program} {ops:Array Oper} {draw:Bool} {rs:List Rk} {l:List Oper} {fl:List (Nat × Value)} {nt:Nat} {h:SH} {K:Fr→SH→Prop} {d:Tmp} {ty:TypeId} {pos:String} {af:Array Edge} {gd:Option (Nat × Bool)} {t t':TypeId} {x:Operand} {k k0 k':IntKind} {n:Int} (m:Nat) [hu:TyU P t (.int k)] [hu':TyU P t' (.int k')] (hw:wantB ops ⟨some d,.convert t t' x,ty,pos,af,gd⟩ ⟨fl,nt⟩=some true) (hd:Nat.blt d nt=true) (hx:Fr.ev ⟨fl,nt⟩ x=some (.int k0 n)) (hv:k'.wrap n=(m:Int))
 (hk:RS P ops draw (recP h.k false [] (some [])::rs) l ⟨(d,.int k' (m:Int))::fl,nt⟩ h K):RS P ops draw rs (⟨some d,.convert t t' x,ty,pos,af,gd⟩::l) ⟨fl,nt⟩ h K:=by
 rw [← hv] at hk;exact RS.convI hw hd hx hk
set_option maxRecDepth 100000 in
set_option maxHeartbeats 0 in
theorem fmtInt_ex (n:Int) (hn:fitI n) (h:Hp) (hg:GT h):EX Tryd.prog 87 [.int .i64 n,.int .i64 10] h (fun v h'=>v=.string (itoaS n)∧Old h h'):=by
 obtain ⟨n0,n1⟩:=hn
 have hk20:digS n.natAbs≤20:=digS_le (by omega)
 by_cases hs:0≤n∧n < 100
 ·have hSm:∀ B',TF Tryd.prog 101 ⟨[.int .i64 n]⟩ B' (.string ⟨(Lib.decDigits n.toNat).toArray⟩) B':=fun B'=>by
   have:=smallN_tf n.toNat (by omega) B'
   rwa [Int.toNat_of_nonneg hs.1] at this
  refine EX.intro (fn:=Tryd.f87) (c:=(Tryd.f87.body.getD .skip)) Tryd.func87 (by kernel_rfl) Tryd.ntmps87 (by kernel_rfl) fun π s0=>?_
  conv=>arg 2;whnf
  repeat (first|((with_reducible apply (RS.callA (g0:=101)));(iterate 3 exact rfl);exact fun B' _=>hSm B')|refine Ye ?_|refine Yf ?_|refine Y3 ?_|refine Yj ?_|refine Y0 ?_|refine Y25 ?_|refine Y1 ?_|refine Y5 ?_)
  exact endsK_ret _ (.cons (.tmp rfl) .nil) fun B' y=>⟨by rw [itoaS,if_pos hs];rfl,y.oldH⟩
 ·by_cases hneg:n < 0
  ·skip
   refine EX.intro (fn:=Tryd.f87) (c:=(Tryd.f87.body.getD .skip)) Tryd.func87 (by kernel_rfl) Tryd.ntmps87 (by kernel_rfl) fun π s0=>?_
   conv=>arg 2;whnf
   ((with_reducible apply W.seq);repeat (first|refine Y14 ?_|refine Y0 ?_|refine Y1 ?_|refine Y12 ?_))
   ((with_reducible apply W.seq);repeat (fail))
   ((with_reducible apply W.seq);repeat (first|refine Y28 ?_|refine Yj ?_|refine Y0 ?_|refine Y1 ?_|refine Y5 ?_|refine Y12 ?_))
   ((with_reducible apply W.seq);repeat (fail))
   ((with_reducible apply W.seq);repeat (first|refine Y28 ?_|refine Y8 ?_|refine Y2 ?_|refine Ym ?_|refine Y0 ?_|refine Y1 ?_|refine Y2z ?_|refine Y6 ?_))
   ((with_reducible apply W.seq);repeat (first|refine Yd ?_|refine Y0 ?_|refine Y1 ?_|refine Y12 ?_))
   refine W.absorbX fun B π1 a1=>?_
   have hA:B.m (π 0)=some ⟨⟨u8s (List.replicate 24 0)⟩,164⟩:=a1.loc 0 (by decide:(0:Nat) < 1)
   have hq0:h.n≤π 0:=a1.lo 0 (by decide:(0:Nat) < 1)
   generalize π 0=q at *
   have haw:rwM≤q:=Nat.le_trans s0.rw hq0
   have hgB:=hg.up a1.up
   repeat (first|((with_reducible apply (RS.negN n.natAbs));(iterate 3 exact rfl);exact neg64 (by omega) (by omega))|refine Y45 ?_|refine Y3r ?_|((with_reducible apply (RS.callEx (g0:=103)));(iterate 3 exact rfl);intro B1 hB1;refine ⟨_,fb10_ex q _ _ _ n.natAbs (List.replicate 24 0) 164 (by omega) (by omega) (by rw [List.length_replicate];omega) B1 (hB1.up _ _ hA) haw,?_⟩;rintro v H2 π2 ⟨rfl,hA2,ho2⟩ sH2 hle2)|((with_reducible apply (RS.indexAddrArr (m:=0)));(iterate 4 exact rfl);omega)|refine Y16 ?_|refine Y3 ?_|refine Yu ?_|refine Y0 ?_|refine Y4v ?_|refine Y1 ?_|refine Y5 ?_)
   have hAn2:=sH2.dom _ _ hA2
   repeat (first|((with_reducible apply (RS.sliceArr (l0:=0) (h0:=1+digS n.natAbs)));(iterate 4 exact rfl);exact ⟨_,_,rfl,rfl⟩;omega;omega;omega;exact of_decide_eq_true rfl)|((with_reducible apply RS.storeB);(iterate 3 exact rfl);exact hA2;exact hAn2;exact haw;(simp only [u8s,List.length_map,fmtS_length,List.length_replicate];omega);(iterate 2 exact rfl);exact setL_u8s _ _ _)|refine Y3f ?_|refine Ye ?_|refine Yu ?_|refine Y0 ?_|refine Y25 ?_|refine Y1 ?_)
   refine endsK_ret _ (.cons (.tmp rfl) .nil) fun B' y=>⟨?_,(old_one (a1.oldH.trans hB1.oldH) (set_offA ho2) hq0).trans y.oldH⟩
   rw [itoaS,if_neg hs,if_pos hneg]
   simp only [resultOf,byB,Nat.zero_add,Nat.mul_one,Nat.add_sub_cancel_left,Nat.sub_zero,Nat.add_zero,Nat.mul_zero,Nat.zero_mul]
  ·skip
   refine EX.intro (fn:=Tryd.f87) (c:=(Tryd.f87.body.getD .skip)) Tryd.func87 (by kernel_rfl) Tryd.ntmps87 (by kernel_rfl) fun π s0=>?_
   conv=>arg 2;whnf
   ((with_reducible apply W.seq);repeat (first|refine Y14 ?_|refine Y0 ?_|refine Y1 ?_|refine Y12 ?_))
   ((with_reducible apply W.seq);repeat (fail))
   ((with_reducible apply W.seq);repeat (first|refine Y28 ?_|refine Yj ?_|refine Y0 ?_|refine Y1 ?_|refine Y5 ?_|refine Y12 ?_))
   ((with_reducible apply W.seq);repeat (fail))
   ((with_reducible apply W.seq);repeat (first|refine Y28 ?_|refine Yf ?_|refine Y3 ?_|refine Y2 ?_|refine Y0 ?_|refine Y1 ?_|refine Y2z ?_|refine Y6 ?_))
   ((with_reducible apply W.seq);repeat (first|refine Yd ?_|refine Y0 ?_|refine Y1 ?_|refine Y12 ?_))
   refine W.absorbX fun B π1 a1=>?_
   have hA:B.m (π 0)=some ⟨⟨u8s (List.replicate 24 0)⟩,164⟩:=a1.loc 0 (by decide:(0:Nat) < 1)
   have hq0:h.n≤π 0:=a1.lo 0 (by decide:(0:Nat) < 1)
   generalize π 0=q at *
   have haw:rwM≤q:=Nat.le_trans s0.rw hq0
   have hgB:=hg.up a1.up
   repeat (first|((with_reducible apply (RS.convTo n.natAbs));(iterate 3 exact rfl);exact pos64 (by omega) (by omega))|refine Y45 ?_|refine Y3r ?_|((with_reducible apply (RS.callEx (g0:=103)));(iterate 3 exact rfl);intro B1 hB1;refine ⟨_,fb10_ex q _ _ _ n.natAbs (List.replicate 24 0) 164 (by omega) (by omega) (by rw [List.length_replicate];omega) B1 (hB1.up _ _ hA) haw,?_⟩;rintro v H2 π2 ⟨rfl,hA2,ho2⟩ sH2 hle2)|refine Ye ?_|refine Y2 ?_|refine Yu ?_|refine Y0 ?_|refine Y2k ?_|refine Y1 ?_|refine Y6 ?_)
   have hAn2:=sH2.dom _ _ hA2
   repeat (first|refine Y3f ?_|refine Y14 ?_|refine Y0 ?_|(with_reducible first|apply W.ret|apply thenK_n|apply thenK_r))
   refine endsK_ret _ (.cons (.tmp rfl) .nil) fun B' y=>⟨?_,(old_one (a1.oldH.trans hB1.oldH) (ho2) hq0).trans y.oldH⟩
   rw [itoaS,if_neg hs,if_neg hneg]
   simp only [resultOf,byB,Nat.zero_add,Nat.mul_one,Nat.add_sub_cancel_left,Nat.sub_zero,Nat.add_zero,Nat.mul_zero,Nat.zero_mul]
theorem itoaI_ex (n:Int) (hn:fitI n) (h:Hp) (hg:GT h):EX Tryd.prog 65 [.int .i64 n] h (fun v h'=>v=.string (itoaS n)∧Old h h'):=by
 refine EX.intro (fn:=Tryd.f65) (c:=(Tryd.f65.body.getD .skip)) Tryd.func65 (by kernel_rfl) Tryd.ntmps65 (by kernel_rfl) fun π s0=>?_
 conv=>arg 2;whnf
 repeat (first|((with_reducible apply RS.callEx);(iterate 3 exact rfl);intro B1 hB1;refine ⟨_,fmtInt_ex n hn B1 (hg.up hB1.up),?_⟩;rintro v H2 π2 ⟨rfl,ho2⟩ sH2 hle2)|refine Ye ?_|refine Y0 ?_|refine Y18 ?_|refine Y1 ?_)
 exact endsK_ret _ (.cons (.tmp rfl) .nil) fun B' y=>⟨rfl,(hB1.oldH.trans ho2).trans y.oldH⟩
theorem fmt10_ex (n:Int) (hn:fitI n) (h:Hp) (hg:GT h):EX Tryd.prog 66 [.int .i64 n,.int .i64 10] h (fun v h'=>v=.string (itoaS n)∧Old h h'):=by
 refine EX.intro (fn:=Tryd.f66) (c:=(Tryd.f66.body.getD .skip)) Tryd.func66 (by kernel_rfl) Tryd.ntmps66 (by kernel_rfl) fun π s0=>?_
 conv=>arg 2;whnf
 repeat (first|((with_reducible apply RS.callEx);(iterate 3 exact rfl);intro B1 hB1;refine ⟨_,fmtInt_ex n hn B1 (hg.up hB1.up),?_⟩;rintro v H2 π2 ⟨rfl,ho2⟩ sH2 hle2)|refine Ye ?_|refine Y0 ?_|refine Y18 ?_|refine Y1 ?_)
 exact endsK_ret _ (.cons (.tmp rfl) .nil) fun B' y=>⟨rfl,(hB1.oldH.trans ho2).trans y.oldH⟩
theorem itoa_ex (n:Int) (hn:fitI n) (h:Hp) (hg:GT h):EX Tryd.prog 39 [.int .i64 n] h (fun v h'=>v=.string (itoaS n)∧Old h h'):=by
 refine EX.intro (fn:=Tryd.f39) (c:=(Tryd.f39.body.getD .skip)) Tryd.func39 (by kernel_rfl) Tryd.ntmps39 (by kernel_rfl) fun π s0=>?_
 conv=>arg 2;whnf
 repeat (first|((with_reducible apply RS.callEx);(iterate 3 exact rfl);intro B1 hB1;refine ⟨_,itoaI_ex n hn B1 (hg.up hB1.up),?_⟩;rintro v H2 π2 ⟨rfl,ho2⟩ sH2 hle2)|refine Ye ?_|refine Y0 ?_|refine Y18 ?_|refine Y1 ?_)
 exact endsK_ret _ (.cons (.tmp rfl) .nil) fun B' y=>⟨rfl,(hB1.oldH.trans ho2).trans y.oldH⟩
section
variable {P:Program}
theorem HOK.forget {G:Nat} {h h':Hp} {ρ ρ':Env} {W W':World} (o:HOK G h ρ W) (o':HOK G h' ρ' W') (hold:Old h h'):HOK G h ρ' W' where
 fits i b hb:=o'.fits i b ((hold.2 i (o.lt i b hb)).trans hb)
 lt:=o.lt
 inj i j b c hi hb hc he:=o'.inj i j b c hi ((hold.2 i (o.lt i b hb)).trans hb) ((hold.2 j (o.lt j c hc)).trans hc) he
 bd:=o.bd
 glob:=o'.glob
 gle:=o.gle
 gow:=o.gow
theorem Ext.forget {h h':Hp} {ρ ρ':Env} {W W':World} {G:Nat} (o:HOK G h ρ W) (E:Ext h h' ρ ρ' W W') (hold:Old h h'):Ext h h ρ ρ' W W' where
 agree:=E.agree
 mono:=Nat.le_refl _
 kept:=E.kept
 size:=E.size
 own i b hi hb _:=⟨i,b,hi,hb,((E.agree i (o.lt i b hb)).1).symm⟩
 tape:=E.tape
 os:=E.os
 output:=E.output
 surv i b' hi hb':=E.surv i b' hi ((hold.2 i hi).trans hb')
theorem TF.ofEX {g:FuncId} {args:List Value} {h:Hp} {v:Value} (hv:bnd 0 v) (he:EX P g args h (fun v' h'=>v'=v∧Old h h')):TF P g ⟨args⟩ h v h:=by
 intro hb ρ W ho
 obtain ⟨v',h',ht,rfl,hold⟩:=he ⟨ρ,W,ho⟩ (fun x hx=>hb x (by simpa using hx))
 refine (ht hb ρ W ho).mono ?_
 rintro e W' ⟨ρ',he,_,ho',E⟩
 exact ⟨ρ',he,bnd_mono (Nat.zero_le _) _ hv,HOK.forget ho ho' hold,Ext.forget ho E hold⟩
theorem HOK.below {G:Nat} {h:Hp} {ρ:Env} {W W':World} (o:HOK G h ρ W) (hB:RowKit.Below W.heap.size W W'):HOK G h ρ W' where
 fits i b hb:=by rw [hB.block _ (o.fits i b hb).lt];exact o.fits i b hb
 lt:=o.lt
 inj:=o.inj
 bd:=o.bd
 glob:=o.glob
 gle:=o.gle
 gow:=o.gow
theorem Ext.below {G:Nat} {h:Hp} {ρ:Env} {W W':World} (o:HOK G h ρ W) (hB:RowKit.Below W.heap.size W W'):Ext h h ρ ρ W W' where
 agree _ _:=⟨rfl,rfl,rfl⟩
 mono:=Nat.le_refl _
 kept c hc _:=hB.block c hc
 size:=hB.size
 own i b hi hb _:=⟨i,b,hi,hb,rfl⟩
 tape:=hB.tape
 os:=hB.os
 output:=hB.output
 surv i b' _ hb':=⟨b',hb',Nat.le_refl _,by rw [hB.block _ (o.fits i b' hb').lt];exact .refl _ _⟩
theorem TF.of_below {g:FuncId} {args:Array Value} {v:Value} {h:Hp} (hv:bnd 0 v) (hc:∀ ρ W,HOK P.globals.size h ρ W→Calls P g (args.map (ren ρ)) W fun e W'=>e=.returned v∧RowKit.Below W.heap.size W W'):TF P g args h v h:=by
 intro _ ρ W ho
 refine (hc ρ W ho).mono ?_
 rintro e W' ⟨he,hB⟩
 exact ⟨ρ,by rw [ren_free ρ v hv];exact he,bnd_mono (Nat.zero_le _) _ hv,HOK.below ho hB,Ext.below ho hB⟩
end
theorem itoa_tf (n:Int) (hn:fitI n) (h:Hp) (hg:GT h):TF Tryd.prog 39 ⟨[.int .i64 n]⟩ h (.string (itoaS n)) h:=TF.ofEX (by simp) (itoa_ex n hn h hg)
theorem fmt10_tf (n:Int) (hn:fitI n) (h:Hp) (hg:GT h):TF Tryd.prog 66 ⟨[.int .i64 n,.int .i64 10]⟩ h (.string (itoaS n)) h:=TF.ofEX (by simp) (fmt10_ex n hn h hg)
def linesS (xs:List ByteArray) (sep:ByteArray):ByteArray:=⟨(Lib.join (xs.map (·.data.toList)) sep.data.toList).toArray⟩
theorem sjoinNone_tf (sep:ByteArray) (c:Nat) (h:Hp):TF Tryd.prog 42 ⟨[.slice none 0 c,.string sep]⟩ h (.string (linesS [] sep)) h :=
 TF.of_same (by simp) (by simp) fun _ W _=>Tryd.strings_Join_none none c sep W
theorem sjoinRow_tf (xs:List ByteArray) (sep:ByteArray) (b cap:Nat) (e:TypeId) (t:List Value) (h:Hp) (hm:h.m b=some ⟨⟨xs.map Value.string++t⟩,e⟩) (hb:rwM≤b) (hcp:cap=capOf 1∨(cap=xs.length+t.length∧cap < capMark)) (hN:xs.length≤140737488355328) (hlen:(Lib.join (xs.map (·.data.toList)) sep.data.toList).length≤140737488355328) :
 TF Tryd.prog 42 ⟨[.slice (some ⟨b,0,none⟩) xs.length cap,.string sep]⟩ h (.string (linesS xs sep)) h:=by
 refine TF.of_below (by simp) fun ρ W ho=>?_
 have hf:=ho.fits _ _ hm
 have hcap:=hf.szle hb
 have hc:xs.length≤renCap ρ ⟨b,0,none⟩ cap:=by
  rcases hcp with rfl|⟨h1,h2⟩
  ·have h1:renCap ρ ⟨b,0,none⟩ (capOf 1)=ρ.cap b:=by
    unfold renCap capOf
    rw [if_neg (by omega)]
    simp
   rw [h1]
   simp at hcap
   omega
  ·unfold renCap
   rw [if_pos h2]
   omega
 have hcells:∀ (j:Nat) x,xs[j]?=some x→W.cell? ⟨ρ.loc b,ρ.sh b+j,none⟩=some (.string x):=by
  intro j x hj
  have hjl:=(List.getElem?_eq_some_iff.1 hj).1
  have:=ho.cell (a:=⟨b,j,none⟩) hm rfl (v:=.string x) (by
   rw [List.getElem?_toArray,List.getElem?_append_left (by simpa using hjl)]
   simp [hj])
  simpa [renAddr,Nat.add_comm] using this
 have:=Tryd.strings_Join (ρ.loc b) (ρ.sh b) _ xs sep W hcells hf.lt hN hc hlen
 simpa [renAddr,linesS] using this
theorem base_upS {h H:Hp} (hd:∀ i b,h.m i=some b→i < h.n) (hH:∀ id,id < h.n→H.m id=h.m id):∀ i b,h.m i=some b→H.m i=some b:=fun i b hb=>by rw [hH i (hd i b hb)];exact hb
theorem dec_len:∀ i:Fin 100,(Lib.decDigits i.val).length≤24:=by decide +kernel
theorem itoaS_size (n:Int):(itoaS n).data.size≤24:=by
 unfold itoaS
 split
 ·rename_i h
  have:=dec_len ⟨n.toNat,by omega⟩
  simpa using this
 ·split
  ·simp only [byB,List.size_toArray,List.length_map]
   refine Nat.le_trans (List.length_take_le' _ _) ?_
   simp only [List.length_drop,List.length_set,fmtS_length,List.length_replicate]
   omega
  ·simp only [byB,List.size_toArray,List.length_map]
   refine Nat.le_trans (List.length_take_le' _ _) ?_
   simp only [List.length_drop,fmtS_length,List.length_replicate]
   omega
def argT (a:ArgS):ByteArray:=if a.reg < 0 then itoaS a.num else ⟨#[114]⟩++itoaS a.reg
theorem sarg_tf (a:ArgS) (ha:a.ok) (h:Hp) (hg:GT h):TF Tryd.prog 41 ⟨[.agg ⟨argC a⟩]⟩ h (.string (argT a)) h:=by
 refine TF.dom fun hd=>?_
 by_cases hr:a.reg < 0
 ·rw [argT,if_pos hr]
  refine TF.still (fn:=Tryd.f41) (c:=(Tryd.f41.body.getD .skip)) Tryd.func41 (by kernel_rfl) Tryd.ntmps41 (by kernel_rfl) (by simp) ?_
  conv=>arg 2;whnf
  repeat (first|((with_reducible apply RS.callB);(iterate 3 exact rfl);exact fun H hH=>(fmt10_tf _ ha.2 H (hg.up (base_upS hd hH)));exact Nm_free (by simp))|refine Y1e ?_|refine Y3 ?_|refine Y7 ?_|refine Y0 ?_|refine Y25 ?_|refine Y1 ?_|refine Y5 ?_)
  exact endsK_ret _ (.cons (.tmp rfl) .nil) ⟨rfl,rfl⟩
 ·rw [argT,if_neg hr]
  have hz:=itoaS_size a.reg
  refine TF.still (fn:=Tryd.f41) (c:=(Tryd.f41.body.getD .skip)) Tryd.func41 (by kernel_rfl) Tryd.ntmps41 (by kernel_rfl) (by simp) ?_
  conv=>arg 2;whnf
  repeat (first|((with_reducible apply RS.strAdd);(iterate 4 exact rfl);(simp only [ByteArray.size_append,ByteArray.size,List.size_toArray,List.length_cons,List.length_nil];omega))|((with_reducible apply RS.callB);(iterate 3 exact rfl);exact fun H hH=>(itoa_tf _ ha.1 H (hg.up (base_upS hd hH)));exact Nm_free (by simp))|refine Y1e ?_|refine Y2 ?_|refine Y7 ?_|refine Y0 ?_|refine Y2a ?_|refine Y1 ?_|refine Y6 ?_)
  exact endsK_ret _ (.cons (.tmp rfl) .nil) ⟨rfl,rfl⟩
def strV (l:List ByteArray):List Value:=l.map Value.string
def strL (l:List ByteArray):List (List Value):=l.map fun s=>[Value.string s]
theorem strL_flat (l:List ByteArray):(strL l).flatten=strV l:=by
 induction l with
 | nil=>rfl
 | cons a l ih =>
  show [Value.string a]++(strL l).flatten=_
  rw [ih];rfl
theorem strL_len (l:List ByteArray):(strL l).length=l.length:=List.length_map ..
theorem strL_wid (l:List ByteArray):∀ c∈strL l,c.length=1:=by
 intro c hc
 obtain ⟨a,_,rfl⟩:=List.mem_map.1 hc
 rfl
theorem strL_nil {l:List ByteArray}:strL l≠[]↔l≠[]:=by cases l<;>simp [strL]
theorem strL_snoc (l:List ByteArray) (s:ByteArray):strL (l++[s])=strL l++[[.string s]]:=by simp [strL]
theorem strV_app (a b:List ByteArray):strV (a++b)=strV a++strV b:=List.map_append
structure RowI (h0:Hp) (r:Nat) (L:List ByteArray) (B:Hp):Prop where
 old:Old h0 B
 row:L≠[]→h0.n≤r∧B.m r=some ⟨⟨strV L⟩,9⟩
theorem RowI.up {h0:Hp} {r:Nat} {L:List ByteArray} {B B':Hp} (s:RowI h0 r L B) (hd:∀ i b,B.m i=some b→i < B.n) (o:Old B B'):RowI h0 r L B' :=
 ⟨s.old.trans o,fun hn=>⟨(s.row hn).1,o.up hd _ _ (s.row hn).2⟩⟩
theorem RowI.nil {h0 B:Hp} (r:Nat) (o:Old h0 B):RowI h0 r [] B:=⟨o,fun h=>absurd rfl h⟩
section
variable {ops:Array Oper} {rs:List Rk} {l:List Oper} {fl:List (Nat × Value)} {nt:Nat} {K:Fr→SH→Prop} {d:Tmp} {ty:TypeId} {pos:String} {af:Array Edge} {gd:Option (Nat × Bool)}
theorem RS.pushStr {h:SH} {t:TypeId} {x y:Operand} {r q c:Nat} {L:List ByteArray} {s:ByteArray} {h0:Hp} {e3:TypeId} [hu:TyU Tryd.prog t (.slice 9)] (hw:wantB ops ⟨some d,.call { callee:=.builtin .append,args:=#[x,y],argTypes:=#[t,t] },ty,pos,af,gd⟩ ⟨fl,nt⟩=some true) (hd:Nat.blt d nt=true)
 (hx:Fr.ev ⟨fl,nt⟩ x=some (rowVl 1 r (strL L))) (hy:Fr.ev ⟨fl,nt⟩ y=some (.slice (some ⟨q,0,none⟩) 1 c)) (h0w:rwM≤h0.n) (hI:RowI h0 r L h.base) (hq:∀ B,Absb (P:=Tryd.prog) h B→B.m q=some ⟨⟨[.string s]⟩,e3⟩) (hlen:L.length+1≤8000000000000)
 (hk:∀ r' H' π,Sat Tryd.prog H'→RowI h0 r' (L++[s]) H'→h.base.n≤r'→OffS (fun j=>j=r) h.base H' →
  RS Tryd.prog ops false (recP 0 false [] none::rs) l ⟨(d,rowVl 1 r' (strL (L++[s])))::fl,nt⟩ ⟨H',π,0,[]⟩ K):RS Tryd.prog ops false rs (⟨some d,.call { callee:=.builtin .append,args:=#[x,y],argTypes:=#[t,t] },ty,pos,af,gd⟩::l) ⟨fl,nt⟩ h K:=by
 refine RS.pushRow (e:=9) (L:=strL L) (v:=[.string s]) hw hd hx hy rfl rfl (fun B' a=>⟨hq B' a,fun hn=>?_⟩) (strL_wid L) rfl rfl (by rw [strL_len];omega) (by rw [strL_len];omega) fun B' a r' H' π sH hr hm hle hoff=>?_
 ·have:=(hI.up a.bdom ⟨a.le,a.old⟩).row (strL_nil.1 hn)
  rw [strL_flat]
  exact ⟨Nat.le_trans h0w this.1,this.2⟩
 ·have hI':=hI.up a.bdom ⟨a.le,a.old⟩
  rw [← strL_snoc]
  refine hk r' H' π sH ⟨⟨Nat.le_trans hI'.old.1 hle,fun i hi=>?_⟩,fun _=>⟨Nat.le_trans hI'.old.1 hr,?_⟩⟩ (Nat.le_trans a.le hr) ⟨Nat.le_trans a.le hle,fun i hi hn=>?_⟩
  ·rw [hoff i (Nat.lt_of_lt_of_le hi hI'.old.1) fun hn e=>?_,hI'.old.2 i hi]
   have:=(hI'.row (strL_nil.1 hn)).1
   omega
  ·rw [← strL_snoc,strL_flat] at hm;exact hm
  ·rw [hoff i (Nat.lt_of_lt_of_le hi a.le) fun _ e=>hn e,a.old i hi]
end
theorem RS.pushStrD {draw:Bool} {B:Hp} {π:Nat→Nat} {k:Nat} {hl:List (Nat × Option Blk)} {ops:Array Oper} {rs:List Rk} {l:List Oper} {fl:List (Nat × Value)} {nt:Nat} {K:Fr→SH→Prop} {d:Tmp} {ty:TypeId} {pos:String} {af:Array Edge} {gd:Option (Nat × Bool)} {t:TypeId} {x y:Operand} {r q c:Nat} {L:List ByteArray} {s:ByteArray} {e2:TypeId} [hu:TyU Tryd.prog t (.slice 9)] (hw:wantB ops ⟨some d,.call { callee:=.builtin .append,args:=#[x,y],argTypes:=#[t,t] },ty,pos,af,gd⟩ ⟨fl,nt⟩=some true) (hd:Nat.blt d nt=true)
 (hx:Fr.ev ⟨fl,nt⟩ x=some (rowVl 1 r (strL L))) (hy:Fr.ev ⟨fl,nt⟩ y=some (.slice (some ⟨π q,0,none⟩) 1 c)) (hL:L≠[]) (hrow:B.m r=some ⟨⟨strV L⟩,9⟩) (hrn:r < B.n) (hrr:rwM≤r) (hqk:q < k) (hbq:lookB hl q=some ⟨⟨[.string s]⟩,e2⟩) (hlen:L.length+1≤8000000000000)
 (hk:RS Tryd.prog ops draw (recGL k q::rs) l ⟨(d,rowVl 1 (π k) (strL (L++[s])))::fl,nt⟩ ⟨B.kill r,π,k+1,(k,some ⟨⟨strV (L++[s])⟩,9⟩)::hl⟩ K):RS Tryd.prog ops draw rs (⟨some d,.call { callee:=.builtin .append,args:=#[x,y],argTypes:=#[t,t] },ty,pos,af,gd⟩::l) ⟨fl,nt⟩ ⟨B,π,k,hl⟩ K:=by
 rw [rowVl_eq,strL_len,if_neg (strL_nil.2 hL),if_neg (strL_nil.2 hL)] at hx
 rw [rowVl_eq,strL_len,if_neg (strL_nil.2 (by simp)),if_neg (strL_nil.2 (by simp)),strV_app,List.length_append] at hk
 exact RS.growL (e:=9) hw hd hx hy rfl rfl hrow hrn hrr (by simp [strV]) hqk hbq rfl rfl (by omega) (by omega) hk
theorem sjoinL_tf (xs:List ByteArray) (sep:ByteArray) (r:Nat) (h h0:Hp) (hI:RowI h0 r xs h) (h0w:rwM≤h0.n) (hN:xs.length≤140737488355328) (hlen:(Lib.join (xs.map (·.data.toList)) sep.data.toList).length≤140737488355328) :
 TF Tryd.prog 42 ⟨[rowVl 1 r (strL xs),.string sep]⟩ h (.string (linesS xs sep)) h:=by
 cases xs with
 | nil=>exact sjoinNone_tf sep 0 h
 | cons a l =>
  have hm:=(hI.row (by simp)).2
  have:=sjoinRow_tf (a::l) sep r (capOf 1) 9 [] h (by rw [List.append_nil];exact hm) (Nat.le_trans h0w (hI.row (by simp)).1) (.inl rfl) hN hlen
  rw [rowVl_eq,strL_len,if_neg (by simp [strL]),if_neg (by simp [strL])]
  exact this
theorem join_le (xs:List ByteArray) (sep:ByteArray) (M:Nat) (h:∀ s∈xs,s.data.size≤M):(Lib.join (xs.map (·.data.toList)) sep.data.toList).length≤xs.length * (M+sep.data.size):=by
 cases xs with
 | nil=>simp [Lib.join_nil]
 | cons a l =>
  rw [List.map_cons,Lib.join_length]
  have hl:∀ l:List ByteArray,(∀ s∈l,s.data.size≤M)→Lib.lens (l.map (·.data.toList))≤l.length * M:=by
   intro l
   induction l with
   | nil=>intro _;simp [Lib.lens]
   | cons b l ih =>
    intro hb
    have h1:=ih fun s hs=>hb s (by simp [hs])
    have h2:=hb b (by simp)
    simp only [Lib.lens,List.map_cons,List.sum_cons,List.length_cons,Nat.succ_mul,Array.length_toList] at h1 ⊢
    omega
  have h3:=hl (a::l) h
  rw [List.map_cons] at h3
  rw [List.length_cons] at h3
  rw [List.length_map,Array.length_toList,Nat.mul_add,List.length_cons]
  have h4:sep.data.size * l.length≤(l.length+1) * sep.data.size:=by rw [Nat.mul_comm];exact Nat.mul_le_mul_right _ (by omega)
  omega
def namesS:List ByteArray:=[⟨#[]⟩,⟨#[99,111,110,115,116]⟩,⟨#[99,111,112,121]⟩,⟨#[97,100,100]⟩,⟨#[115,117,98]⟩,⟨#[109,117,108]⟩,⟨#[100,105,118]⟩,⟨#[117,100,105,118]⟩,⟨#[114,101,109]⟩,⟨#[117,114,101,109]⟩,⟨#[97,110,100]⟩,⟨#[111,114]⟩,⟨#[120,111,114]⟩,⟨#[115,104,108]⟩,⟨#[115,97,114]⟩,⟨#[115,104,114]⟩,⟨#[101,113]⟩,⟨#[110,101]⟩,⟨#[108,116]⟩,⟨#[108,101]⟩,⟨#[117,108,116]⟩,⟨#[117,108,101]⟩,⟨#[101,120,116]⟩,⟨#[103,108,111,98,97,108]⟩,⟨#[115,108,111,116]⟩,⟨#[102,117,110,99]⟩,⟨#[108,111,97,100]⟩,⟨#[115,116,111,114,101]⟩,⟨#[99,97,108,108]⟩,⟨#[99,97,108,108,97,116]⟩,⟨#[111,117,116]⟩]
def NT (h:Hp):Prop:=∃ e,h.m 0=some ⟨⟨strV namesS⟩,e⟩
theorem NT.up {h H:Hp} (g:NT h) (hu:∀ i b,h.m i=some b→H.m i=some b):NT H:=by
 obtain ⟨e,he⟩:=g
 exact ⟨e,hu _ _ he⟩
def nameS (op:Int):ByteArray:=(namesS[op.toNat]?).getD ⟨#[]⟩
theorem names_at {n:Nat} (hn:n < 31):(strV namesS)[0+n * 1]?=some (.string (nameS n)):=by
 have hl:n < namesS.length:=hn
 unfold nameS strV
 rw [Nat.zero_add,Nat.mul_one,List.getElem?_map,Int.toNat_natCast,List.getElem?_eq_getElem hl]
 rfl
theorem names_len:∀ n:Fin 31,((namesS[n.val]?).getD ⟨#[]⟩).data.size≤24:=by decide +kernel
theorem nameS_size (op:Int) (h0:0≤op) (h1:op < 31):(nameS op).data.size≤24:=names_len ⟨op.toNat,by omega⟩
def dstT (x:InsS):List ByteArray:=if 0≤x.dst then [⟨#[114]⟩++itoaS x.dst++⟨#[32,61]⟩] else []
def opT (x:InsS):ByteArray:=if 0 < x.op∧x.op < 31 then nameS x.op else ⟨#[63]⟩
def opT2 (x:InsS):ByteArray:=if x.op=22∨x.op=26∨x.op=27 then (if x.signed=true then opT x++itoaS (IntKind.i64.wrap (8 * x.size))++⟨#[115]⟩ else opT x++itoaS (IntKind.i64.wrap (8 * x.size))) else opT x
def refT (x:InsS):List ByteArray:=if x.op=23∨x.op=24∨x.op=25∨x.op=28 then [⟨#[35]⟩++itoaS x.ref] else []
def offT (x:InsS):List ByteArray:=if x.off=0 then [] else [⟨#[43]⟩++itoaS x.off]
def secT (x:InsS):List ByteArray:=if x.secret=true then [⟨#[115,101,99,114,101,116]⟩] else []
def headT (x:InsS):List ByteArray:=dstT x++[opT2 x]++refT x
def partsT (x:InsS):List ByteArray:=headT x++(readsS x).map argT++offT x++secT x
def insT (x:InsS):ByteArray:=linesS (partsT x) ⟨#[32]⟩
theorem dstT_len (x:InsS):(dstT x).length≤1:=by unfold dstT;split<;>simp
theorem refT_len (x:InsS):(refT x).length≤1:=by unfold refT;split<;>simp
theorem headT_ne (x:InsS):headT x≠[]:=by unfold headT;simp
theorem headT_len (x:InsS):(headT x).length≤3:=by
 have h1:=dstT_len x
 have h2:=refT_len x
 unfold headT
 simp only [List.length_append,List.length_cons,List.length_nil]
 omega
def PartsOK (L:List ByteArray):Prop:=L.length≤200000∧∀ s∈L,s.data.size≤100
theorem reads_small (x:InsS) (hn:x.args.length≤100000):(readsS x).length≤100001:=by
 unfold readsS
 repeat' split
 all_goals (first|omega|(simp;done)|(simp;omega))
theorem reads_ok {x:InsS} (hx:x.ok):∀ a∈readsS x,a.ok:=by
 intro a ha
 unfold readsS at ha
 repeat' split at ha
 all_goals (try simp only [List.mem_cons,List.not_mem_nil,or_false] at ha)
 ·exact hx.args a ha
 ·rcases ha with rfl|ha
  ·exact hx.a
  ·exact hx.args a ha
 ·rcases ha with rfl|rfl
  ·exact hx.a
  ·exact hx.b
 ·rw [ha];exact hx.a
theorem app_size (a b:ByteArray):(a++b).data.size=a.data.size+b.data.size:=ByteArray.size_append
theorem argT_size (a:ArgS):(argT a).data.size≤25:=by
 unfold argT
 split
 ·have:=itoaS_size a.num;omega
 ·rw [app_size]
  have:=itoaS_size a.reg
  have e:(⟨#[114]⟩:ByteArray).data.size=1:=rfl
  omega
theorem opT_size (x:InsS):(opT x).data.size≤24:=by
 unfold opT
 split
 ·exact nameS_size _ (by omega) (by omega)
 ·exact Nat.le_of_ble_eq_true rfl
theorem head_parts (x:InsS):∀ s∈headT x,s.data.size≤100:=by
 have hzd:=itoaS_size x.dst
 have hzr:=itoaS_size x.ref
 have hzs:=itoaS_size (IntKind.i64.wrap (8 * x.size))
 have hzt:=opT_size x
 have e1:(⟨#[114]⟩:ByteArray).data.size=1:=rfl
 have e2:(⟨#[32,61]⟩:ByteArray).data.size=2:=rfl
 have e3:(⟨#[35]⟩:ByteArray).data.size=1:=rfl
 have e4:(⟨#[115]⟩:ByteArray).data.size=1:=rfl
 intro s hs
 unfold headT dstT refT at hs
 simp only [List.mem_append,List.mem_cons,List.not_mem_nil,or_false] at hs
 rcases hs with (hs|hs)|hs
 ·split at hs
  ·simp only [List.mem_cons,List.not_mem_nil,or_false] at hs
   rw [hs,app_size,app_size];omega
  ·cases hs
 ·rw [hs]
  unfold opT2
  repeat' split
  ·rw [app_size,app_size];omega
  ·rw [app_size];omega
  ·omega
 ·split at hs
  ·simp only [List.mem_cons,List.not_mem_nil,or_false] at hs
   rw [hs,app_size];omega
  ·cases hs
theorem parts_ok (x:InsS) (hx:x.ok) (hn:x.args.length≤100000):(headT x++(readsS x).map argT).length≤100004∧∀ s∈headT x++(readsS x).map argT,s.data.size≤100:=by
 have h1:=headT_len x
 have h2:=reads_small x hn
 refine ⟨by simp only [List.length_append,List.length_map];omega,fun s hs=>?_⟩
 rcases List.mem_append.1 hs with h|h
 ·exact head_parts x s h
 ·obtain ⟨a,_,rfl⟩:=List.mem_map.1 h
  have:=argT_size a
  omega
theorem PartsOK.snoc {L:List ByteArray} {n:Nat} (h:L.length≤n∧∀ s∈L,s.data.size≤100) {s:ByteArray} (hs:s.data.size≤100):(L++[s]).length≤n+1∧∀ s'∈L++[s],s'.data.size≤100:=by
 refine ⟨by simp only [List.length_append,List.length_cons,List.length_nil];omega,fun s' h'=>?_⟩
 rcases List.mem_append.1 h' with e|e
 ·exact h.2 s' e
 ·rw [List.mem_singleton.1 e];exact hs
set_option maxRecDepth 100000 in
set_option maxHeartbeats 0 in
theorem insT_tf (x:InsS) (hx:x.ok) (A0:Option Addr) (c0:Nat) (h:Hp) (hl:SlAt h A0 2 x.args argR) (hn:x.args.length≤100000) (hg:GT h) (ht:NT h):TF Tryd.prog 40 ⟨[.agg ⟨insC x A0 c0⟩]⟩ h (.string (insT x)) h:=by
 have hzd:=itoaS_size x.dst
 have hzr:=itoaS_size x.ref
 have hzo:=itoaS_size x.off
 have hzs:=itoaS_size (IntKind.i64.wrap (8 * x.size))
 refine TF.exact (fn:=Tryd.f40) (c:=(Tryd.f40.body.getD .skip)) Tryd.func40 (by kernel_rfl) Tryd.ntmps40 (by kernel_rfl) (fun s0=>⟨Nat.le_refl _,by simp,fun i b hb=>⟨s0.dom i b hb,s0.bd i b hb⟩⟩) fun π s0=>?_
 conv=>arg 2;whnf
 ((with_reducible apply W.seq);repeat (first|refine Y2r ?_|refine Y0 ?_|refine Y1 ?_|refine Y12 ?_))
 refine W.absorbX fun B0 π0 a0=>?_
 have hX0:B0.m (π 0)=some ⟨⟨insC x A0 c0⟩,58⟩:=a0.loc 0 (by decide:(0:Nat) < 1)
 generalize π 0=q at *
 have hXn0:=a0.dom _ _ hX0
 have hw0:rwM≤B0.n:=a0.sat.rw
 have hgB0:=hg.up a0.up
 have hX:=hX0
 have hXn:=hXn0
 have hgB:=hgB0
 ((with_reducible apply W.seq);repeat (first|refine Y14 ?_|refine Y0 ?_|refine Y1 ?_|refine Y12 ?_))
 ((with_reducible apply W.seq);repeat (fail))
 refine W.joinNT (X:=Nat) (fun r=>[(1,.pointer (some ⟨q,0,none⟩)),(3,rowVl 1 r (strL (dstT x)))]) (fun r B=>RowI B0 r (dstT x) B) ?_ ?_
 ·have hRow:RowI B0 0 [] B0:=RowI.nil 0 (Old.refl B0)
  have hLen:([]:List ByteArray).length+1≤8000000000000:=by decide
  by_cases hd:0≤x.dst
  ·have e:dstT x=[]++[⟨#[114]⟩++itoaS x.dst++⟨#[32,61]⟩]:=by unfold dstT;rw [if_pos hd];rfl
   repeat (first|refine Y1g ?_|refine Yr ?_|((with_reducible apply (RS.callA (g0:=39)));(iterate 3 exact rfl);exact fun B' hB'=>itoa_tf x.dst hx.dst B' (hgB.up fun i b hb=>hB'.up i b hb))|refine Yn ?_|((with_reducible apply (RS.pushStr (h0:=B0) (L:=[]) (r:=0)));(iterate 4 exact rfl);exact hw0;exact hRow;exact (fun B' a=>(a.loc 0 (by decide:(0:Nat) < 1)).trans rfl);exact hLen;intro r1 H1 π1 s1 hR1 hr1 ho1)|refine Yc ?_|refine Y3 ?_|refine Y0 ?_|refine Y4v ?_|refine Y1 ?_|refine Y5 ?_)
   refine joinN_n rfl fun B' a=>⟨r1,?_,by rw [e];exact hR1.up s1.dom a.oldH⟩
   rw [e]
   (repeat' (first|exact trivial|exact rfl|apply And.intro));done
  ·have e:dstT x=[]:=by unfold dstT;rw [if_neg hd]
   repeat (first|refine Yr ?_|refine Y2 ?_|refine Y50 ?_|refine Y0 ?_|refine Y2k ?_|refine Y1 ?_|refine Y6 ?_)
   refine joinN_n rfl fun B' a=>⟨0,?_,by rw [e];exact RowI.nil 0 a.oldH⟩
   rw [e]
   (repeat' (first|exact trivial|exact rfl|apply And.intro));done
 rintro r2 B2 π2 sB2 hRow2
 have hX:=hRow2.old.up a0.dom _ _ hX0
 have hXn:=sB2.dom _ _ hX
 have hgB:=hgB0.up (hRow2.old.up a0.dom)
 ((with_reducible apply W.seq);repeat (first|refine Y14 ?_|refine Y0 ?_|refine Y1 ?_|refine Y12 ?_))
 with_reducible apply W.seq
 refine W.joinNT (X:=Nat) (fun r=>[(1,.pointer (some ⟨q,0,none⟩)),(3,rowVl 1 r (strL (dstT x))),(4,.string (opT x))]) (fun r B=>RowI B0 r (dstT x) B) ?_ ?_
 ·by_cases h0:0 < x.op
  ·by_cases h1:x.op < 31
   ·have e:opT x=nameS x.op:=by unfold opT;rw [if_pos ⟨h0,h1⟩]
    obtain ⟨te,hG0⟩:=ht
    have hG:=hRow2.old.up a0.dom _ _ (a0.up _ _ hG0)
    have hGn:=sB2.dom _ _ hG
    have hat:=names_at (n:=x.op.toNat) (by omega)
    rw [Int.toNat_of_nonneg (by omega)] at hat
    repeat (first|((with_reducible apply (RS.indexAddrArr (m:=x.op.toNat)));(iterate 3 exact rfl);exact (show _=_ from congrArg (fun z=>some (Value.int IntKind.i64 z)) (Int.toNat_of_nonneg (by omega)).symm);omega)|((with_reducible apply RS.load1B);(iterate 3 exact rfl);first|exact hG;exact hGn;exact hat|exact hX;exact hXn;exact rfl)|refine Yc ?_|refine Yf ?_|refine Y3 ?_|refine Y0 ?_|refine Y4v ?_|refine Y1 ?_|refine Y5 ?_)
    refine joinN_n rfl fun B' a=>⟨r2,?_,hRow2.up sB2.dom a.oldH⟩
    rw [e]
    (repeat' (first|exact trivial|exact rfl|apply And.intro));done
   ·have e:opT x=⟨#[63]⟩:=by unfold opT;rw [if_neg (fun h=>h1 h.2)]
    repeat (first|refine Yr ?_|refine Y1a ?_|refine Yf ?_|refine Y3 ?_|refine Y2 ?_|refine Y0 ?_|refine Y2k ?_|refine Y1 ?_|refine Y6 ?_)
    refine joinN_n rfl fun B' a=>⟨r2,?_,hRow2.up sB2.dom a.oldH⟩
    rw [e]
    (repeat' (first|exact trivial|exact rfl|apply And.intro));done
  ·have e:opT x=⟨#[63]⟩:=by unfold opT;rw [if_neg (fun h=>h0 h.1)]
   repeat (first|refine Yr ?_|refine Y1a ?_|refine Y8 ?_|refine Y2 ?_|refine Ym ?_|refine Y0 ?_|refine Y2k ?_|refine Y1 ?_|refine Y6 ?_)
   refine joinN_n rfl fun B' a=>⟨r2,?_,hRow2.up sB2.dom a.oldH⟩
   rw [e]
   (repeat' (first|exact trivial|exact rfl|apply And.intro));done
 rintro r3 B3 π3 sB3 hRow3
 have hX:=hRow3.old.up a0.dom _ _ hX0
 have hXn:=sB3.dom _ _ hX
 have hgB:=hgB0.up (hRow3.old.up a0.dom)
 have hzt:=opT_size x
 with_reducible apply W.seq
 refine W.joinNT (X:=Nat) (fun r=>[(1,.pointer (some ⟨q,0,none⟩)),(3,rowVl 1 r (strL (dstT x))),(4,.string (opT2 x))]) (fun r B=>RowI B0 r (dstT x) B) ?_ ?_
 ·by_cases hc:x.op=22∨x.op=26∨x.op=27
  ·cases hsg:x.signed with
   | true =>
    have e:opT2 x=opT x++itoaS (IntKind.i64.wrap (8 * x.size))++⟨#[115]⟩:=by unfold opT2;rw [if_pos hc,if_pos hsg]
    have hc3:x.op=22∨(¬ x.op=22∧x.op=26)∨(¬ x.op=22∧¬ x.op=26∧x.op=27):=by omega
    rcases hc3 with hc|⟨hc,hc1⟩|⟨hc,hc1,hc2⟩
    all_goals
     repeat (first|refine Y4j ?_|refine Y1g ?_|refine Yr ?_|refine Y3t ?_|refine Yc ?_|refine Yf ?_|refine Y8 ?_|refine Y3 ?_|refine Y2 ?_|refine Yt ?_|refine Ym ?_|refine Y0 ?_|refine Y4v ?_|refine Y1 ?_|refine Y5 ?_)
     refine joinN_n rfl fun B' a=>⟨r3,?_,hRow3.up sB3.dom a.oldH⟩
     rw [e]
     (repeat' (first|exact trivial|exact rfl|apply And.intro));done
   | false =>
    have e:opT2 x=opT x++itoaS (IntKind.i64.wrap (8 * x.size)):=by unfold opT2;rw [if_pos hc,if_neg (by rw [hsg];decide)]
    have hc3:x.op=22∨(¬ x.op=22∧x.op=26)∨(¬ x.op=22∧¬ x.op=26∧x.op=27):=by omega
    rcases hc3 with hc|⟨hc,hc1⟩|⟨hc,hc1,hc2⟩
    all_goals
     repeat (first|refine Y4k ?_|refine Y1g ?_|refine Yr ?_|refine Y3t ?_|refine Yc ?_|refine Yf ?_|refine Y8 ?_|refine Y3 ?_|refine Y2 ?_|refine Yt ?_|refine Ym ?_|refine Y0 ?_|refine Y2k ?_|refine Y1 ?_|refine Y5 ?_)
     refine joinN_n rfl fun B' a=>⟨r3,?_,hRow3.up sB3.dom a.oldH⟩
     rw [e]
     (repeat' (first|exact trivial|exact rfl|apply And.intro));done
  ·have e:opT2 x=opT x:=by unfold opT2;rw [if_neg hc]
   have hc1:¬ x.op=22:=by omega
   have hc2:¬ x.op=26:=by omega
   have hc4:¬ x.op=27:=by omega
   repeat (first|refine Yr ?_|refine Y1a ?_|refine Y8 ?_|refine Y2 ?_|refine Y0 ?_|refine Y2k ?_|refine Y1 ?_|refine Y6 ?_)
   refine joinN_n rfl fun B' a=>⟨r3,?_,hRow3.up sB3.dom a.oldH⟩
   rw [e]
   (repeat' (first|exact trivial|exact rfl|apply And.intro));done
 rintro r4 B4 π4 sB4 hRow
 have hX:=hRow.old.up a0.dom _ _ hX0
 have hXn:=sB4.dom _ _ hX
 have hgB:=hgB0.up (hRow.old.up a0.dom)
 have hLen:(dstT x).length+1≤8000000000000:=by have:=dstT_len x;omega
 ((with_reducible apply W.seq);repeat (first|refine Yn ?_|((with_reducible apply (RS.pushStr (h0:=B0)));(iterate 4 exact rfl);exact hw0;exact hRow;exact (fun B' a=>(a.loc 0 (by decide:(0:Nat) < 1)).trans rfl);exact hLen;intro r1 H1 π1 s1 hR1 hr1 ho1)|refine Ye ?_|refine Y0 ?_|refine Y1 ?_|refine Y12 ?_))
 have hRow5:=hR1
 have hX:=hRow5.old.up a0.dom _ _ hX0
 have hXn:=s1.dom _ _ hX
 have hgB:=hgB0.up (hRow5.old.up a0.dom)
 have hRow:=hRow5
 have hLen:(dstT x++[opT2 x]).length+1≤8000000000000:=by have:=dstT_len x;simp only [List.length_append,List.length_cons,List.length_nil];omega
 with_reducible apply W.seq
 refine W.joinNT (X:=Nat) (fun r=>[(1,.pointer (some ⟨q,0,none⟩)),(3,rowVl 1 r (strL (headT x)))]) (fun r B=>RowI B0 r (headT x) B) ?_ ?_
 ·by_cases hc:x.op=23∨x.op=24∨x.op=25∨x.op=28
  ·have e:headT x=(dstT x++[opT2 x])++[⟨#[35]⟩++itoaS x.ref]:=by unfold headT refT;rw [if_pos hc]
   have hc3:x.op=23∨(¬ x.op=23∧x.op=24)∨(¬ x.op=23∧¬ x.op=24∧x.op=25)∨(¬ x.op=23∧¬ x.op=24∧¬ x.op=25∧x.op=28):=by omega
   rcases hc3 with hc|⟨hc,hc1⟩|⟨hc,hc1,hc2⟩|⟨hc,hc1,hc2,hc3⟩
   all_goals
    repeat (first|refine Y1g ?_|refine Yr ?_|((with_reducible apply (RS.callA (g0:=39)));(iterate 3 exact rfl);exact fun B' hB'=>itoa_tf x.ref hx.ref B' (hgB.up fun i b hb=>hB'.up i b hb))|refine Yn ?_|((with_reducible apply (RS.pushStr (h0:=B0)));(iterate 4 exact rfl);exact hw0;exact hRow;exact (fun B' a=>(a.loc 0 (by decide:(0:Nat) < 1)).trans rfl);exact hLen;intro r1 H1 π1 s1 hR1 hr1 ho1)|refine Yc ?_|refine Y3 ?_|refine Y2 ?_|refine Y0 ?_|refine Yg ?_|refine Y1 ?_|refine Y5 ?_|refine Y6 ?_)
    refine joinN_n rfl fun B' a=>⟨r1,?_,by rw [e];exact hR1.up s1.dom a.oldH⟩
    rw [e]
    (repeat' (first|exact trivial|exact rfl|apply And.intro));done
  ·have e:headT x=dstT x++[opT2 x]:=by unfold headT refT;rw [if_neg hc,List.append_nil]
   have hc1:¬ x.op=23:=by omega
   have hc2:¬ x.op=24:=by omega
   have hc3:¬ x.op=25:=by omega
   have hc4:¬ x.op=28:=by omega
   repeat (first|refine Yr ?_|refine Y4x ?_|refine Y2 ?_|refine Y0 ?_|refine Yg ?_|refine Y1 ?_|refine Y6 ?_)
   refine joinN_n rfl fun B' a=>⟨r1,?_,by rw [e];exact hRow5.up s1.dom a.oldH⟩
   rw [e]
   (repeat' (first|exact trivial|exact rfl|apply And.intro));done
 rintro r6 B6 π6 sB6 hRow6
 have hX:=hRow6.old.up a0.dom _ _ hX0
 have hXn:=sB6.dom _ _ hX
 have hup6:=hRow6.old.up a0.dom
 have hl0:=hl.mono a0.up fun _ _ h=>h
 have hrdl:=readsS_len x (by omega)
 have hrl:=reads_small x hn
 have hrok:=reads_ok hx
 have hhl:=headT_len x
 repeat (first|((with_reducible apply RS.loadNB);(iterate 3 exact rfl);exact hX;exact hXn;exact Nat.le_of_ble_eq_true rfl;exact (show takeV 0 12 (insC x A0 c0)=insC x A0 c0 from rfl))|((with_reducible apply (RS.callEx (g0:=50)));(iterate 3 exact rfl);intro B6' hB6;refine ⟨_,reads_ex x A0 c0 (by omega) B6' (hl0.mono (fun i b hb=>hB6.up i b (hup6 i b hb)) fun _ _ h=>h),?_⟩;rintro v H7 π7 ⟨A7,c7,rfl,hRd,ho7⟩ sH7 hle7)|((with_reducible first|apply RS.move|apply RS.lenSl);iterate 3 exact rfl)|refine Y0 ?_|refine Y19 ?_|refine Y1 ?_)
 have hRow7:RowI B0 r6 (headT x) H7:=(hRow6.up sB6.dom (hB6.oldH.trans ho7))
 refine W.loopN (X:=Nat × Nat) (fun z=>[(1,.pointer (some ⟨q,0,none⟩)),(72,.slice A7 (readsS x).length c7),(73,.int .i64 ((readsS x).length:Int)),(74,.int .i64 (z.1:Int)),(3,rowVl 1 z.2 (strL (headT x++((readsS x).take z.1).map argT)))]) (fun z B=>z.1≤(readsS x).length∧(OffS (fun j=>j=r6) H7 B∧(z.2=r6∨H7.n≤z.2))∧RowI B0 z.2 (headT x++((readsS x).take z.1).map argT) B) (fun z=>(readsS x).length - z.1)
  (fun B' a=>⟨(0,r6),?_,⟨Nat.zero_le _,⟨a.oldH.off,.inl rfl⟩,by rw [List.take_zero,List.map_nil,List.append_nil];exact hRow7.up sH7.dom a.oldH⟩⟩) ?_
 ·rw [List.take_zero,List.map_nil,List.append_nil]
  (repeat' (first|exact trivial|exact rfl|apply And.intro));done
 rintro ⟨i,r8⟩ B8 π8 sB8 ⟨hi,⟨off8,hr8⟩,hRow⟩
 dsimp only at hi hRow hr8 ⊢
 have hgB:=hgB0.up (hRow.old.up a0.dom)
 have hLen:(headT x++((readsS x).take i).map argT).length+1≤8000000000000:=by
  simp only [List.length_append,List.length_map,List.length_take]
  omega
 by_cases hlt:i < (readsS x).length
 ·obtain ⟨a,ha⟩:∃ a,(readsS x)[i]?=some a:=⟨_,List.getElem?_eq_getElem hlt⟩
  obtain ⟨ab,ao,acs,ae,rfl,hG0,hGl,hGv⟩:=hRd.get i a ha
  have hGv:takeV (ao+i * 2) 2 acs=argC a:=hGv
  have hG:B8.m ab=some ⟨⟨acs⟩,ae⟩:=by
   rw [off8.2 ab (sH7.dom _ _ hG0) fun e=>?_]
   ·exact hG0
   ·have h1:=(hRow7.row (headT_ne x)).2
    rw [← e,hG0] at h1
    injection h1 with h1
    injection h1 with h1 _
    injection h1 with h1
    have h2:=take_nth hGv (j:=0) rfl
    rw [h1] at h2
    unfold strV at h2
    rw [List.getElem?_map] at h2
    cases h3:(headT x)[ao+i * 2+0]? with
    | none=>rw [h3] at h2;cases h2
    | some s=>rw [h3] at h2;cases h2
  have hGn:=sB8.dom _ _ hG
  have haok:=hrok a (List.mem_of_getElem? ha)
  have etk:headT x++((readsS x).take (i+1)).map argT=headT x++((readsS x).take i).map argT++[argT a]:=by
   rw [List.take_add_one,ha]
   simp
  repeat (first|refine Y9 ?_|refine Y1j ?_|((with_reducible apply (RS.callA (g0:=41)));(iterate 3 exact rfl);exact fun B' hB'=>sarg_tf a haok B' (hgB.up fun i b hb=>hB'.up i b hb))|((with_reducible apply (RS.pushStr (h0:=B0)));(iterate 4 exact rfl);exact hw0;exact hRow;exact (fun B' a=>(a.loc 1 (by decide:(1:Nat) < 2)).trans rfl);exact hLen;intro r1 H1 π1 s1 hR1 hr1 ho1)|refine Yn ?_|refine Ye ?_|refine Y3 ?_|refine Yb ?_|refine Ya ?_|refine Y4 ?_|refine Yd ?_|refine Y0 ?_|refine Yg ?_|refine Y1 ?_|refine Y5 ?_)
  refine roundN_n rfl fun B' y=>⟨(i+1,r1),?_,⟨by dsimp only;omega,⟨((off8.trans (T:=fun j=>j=r8) ho1 fun j hj e=>Or.elim hr8 (fun e'=>e.trans e') (fun e'=>by omega))).same y.oldH.off,.inr (Nat.le_trans off8.1 hr1)⟩,by dsimp only;rw [etk];exact hR1.up s1.dom y.oldH⟩,by dsimp only;omega⟩
  dsimp only
  rw [etk]
  (repeat' (first|exact trivial|exact rfl|apply And.intro));done
 ·have hni:i=(readsS x).length:=by omega
  have eall:headT x++((readsS x).take i).map argT=headT x++(readsS x).map argT:=by rw [hni,List.take_length]
  rw [eall] at hRow hLen ⊢
  have hX:=hRow.old.up a0.dom _ _ hX0
  have hXn:=sB8.dom _ _ hX
  have hP0:=parts_ok x hx hn
  have hJ:∀ (L:List ByteArray) (r:Nat) (B B':Hp),RowI B0 r L B→(∀ i b,B.m i=some b→i < B.n)→Old B B'→PartsOK L→TF Tryd.prog 42 ⟨[rowVl 1 r (strL L),.string ⟨#[32]⟩]⟩ B' (.string (linesS L ⟨#[32]⟩)) B':=by
   intro L r B B' h1 h2 h3 h4
   have hle:=join_le L ⟨#[32]⟩ 100 h4.2
   have h5:=h4.1
   have h6:L.length * (100+(⟨#[32]⟩:ByteArray).data.size)≤140737488355328:=by
    have:(⟨#[32]⟩:ByteArray).data.size=1:=rfl
    rw [this];omega
   exact sjoinL_tf L _ r B' B0 (h1.up h2 h3) hw0 (by omega) (Nat.le_trans hle h6)
  have hins:insT x=linesS (headT x++(readsS x).map argT++offT x++secT x) ⟨#[32]⟩:=rfl
  by_cases hoff:x.off=0
  ·have eo:offT x=[]:=by unfold offT;rw [if_pos hoff]
   rw [eo,List.append_nil] at hins
   cases hsg:x.secret with
   | true =>
    have es:secT x=[⟨#[115,101,99,114,101,116]⟩]:=by unfold secT;rw [if_pos hsg]
    rw [es] at hins
    have hP1:=PartsOK.snoc hP0 (s:=⟨#[115,101,99,114,101,116]⟩) (Nat.le_of_ble_eq_true rfl)
    repeat (first|refine Y4j ?_|((with_reducible apply (RS.callA (g0:=42)));(iterate 3 exact rfl);exact fun B' hB'=>hJ _ _ _ B' (by first|exact hR1|exact hRow) hB'.bdom hB'.oldH (by first|exact ⟨by have:=hP2.1;omega,hP2.2⟩|exact ⟨by have:=hP1.1;omega,hP1.2⟩|exact ⟨by have:=hP0.1;omega,hP0.2⟩))|refine Yr ?_|refine Yn ?_|((with_reducible apply (RS.pushStr (h0:=B0)));(iterate 4 exact rfl);exact hw0;exact hRow;exact (fun B' a=>(a.loc 0 (by decide:(0:Nat) < 1)).trans rfl);exact hLen;intro r1 H1 π1 s1 hR1 hr1 ho1)|refine Yc ?_|refine Y2 ?_|refine Y0 ?_|refine Y3v ?_|refine Y1 ?_|refine Y6 ?_|refine Yi ?_)
    exact endsK_ret _ (.cons (.tmp rfl) .nil) fun B' y=>⟨by rw [hins];rfl,fun j x hj=>y.up _ _ (hR1.old.up a0.dom _ _ (a0.up _ _ hj))⟩
   | false =>
    have es:secT x=[]:=by unfold secT;rw [if_neg (by rw [hsg];decide)]
    rw [es,List.append_nil] at hins
    repeat (first|refine Y4k ?_|((with_reducible apply (RS.callA (g0:=42)));(iterate 3 exact rfl);exact fun B' hB'=>hJ _ _ _ B' (by first|exact hR1|exact hRow) hB'.bdom hB'.oldH (by first|exact ⟨by have:=hP2.1;omega,hP2.2⟩|exact ⟨by have:=hP1.1;omega,hP1.2⟩|exact ⟨by have:=hP0.1;omega,hP0.2⟩))|refine Yr ?_|refine Yc ?_|refine Y2 ?_|refine Y0 ?_|refine Y3v ?_|refine Y1 ?_|refine Y6 ?_|refine Yi ?_)
    exact endsK_ret _ (.cons (.tmp rfl) .nil) fun B' y=>⟨by rw [hins];rfl,fun j x hj=>y.up _ _ (hRow.old.up a0.dom _ _ (a0.up _ _ hj))⟩
  ·have eo:offT x=[⟨#[43]⟩++itoaS x.off]:=by unfold offT;rw [if_neg hoff]
   rw [eo] at hins
   have hP1:=PartsOK.snoc hP0 (s:=⟨#[43]⟩++itoaS x.off) (by
    have e1:(⟨#[43]⟩++itoaS x.off).data.size=1+(itoaS x.off).data.size:=ByteArray.size_append
    rw [e1];omega)
   cases hsg:x.secret with
   | true =>
    have es:secT x=[⟨#[115,101,99,114,101,116]⟩]:=by unfold secT;rw [if_pos hsg]
    rw [es] at hins
    have hP2:=PartsOK.snoc hP1 (s:=⟨#[115,101,99,114,101,116]⟩) (Nat.le_of_ble_eq_true rfl)
    have hLen2:(headT x++(readsS x).map argT++[⟨#[43]⟩++itoaS x.off]).length+1≤8000000000000:=by have:=hP1.1;omega
    repeat (first|refine Y4j ?_|((with_reducible apply (RS.pushStr (h0:=B0)));(iterate 4 exact rfl);exact hw0;exact hR1;exact (fun B' a=>(a.loc 0 (by decide:(0:Nat) < 1)).trans rfl);exact hLen2;intro r1 H1 π1 s1 hR1 hr1 ho1)|((with_reducible apply (RS.callA (g0:=42)));(iterate 3 exact rfl);exact fun B' hB'=>hJ _ _ _ B' (by first|exact hR1|exact hRow) hB'.bdom hB'.oldH (by first|exact ⟨by have:=hP2.1;omega,hP2.2⟩|exact ⟨by have:=hP1.1;omega,hP1.2⟩|exact ⟨by have:=hP0.1;omega,hP0.2⟩))|refine Y1g ?_|refine Y3l ?_|refine Y4f ?_|refine Yn ?_|((with_reducible apply (RS.pushStr (h0:=B0)));(iterate 4 exact rfl);exact hw0;exact hRow;exact (fun B' a=>(a.loc 0 (by decide:(0:Nat) < 1)).trans rfl);exact hLen;intro r1 H1 π1 s1 hR1 hr1 ho1)|refine Yc ?_|refine Y3 ?_|refine Y2 ?_|refine Y0 ?_|refine Y20 ?_|refine Y1 ?_|refine Y5 ?_|refine Y6 ?_|refine Yi ?_)
    exact endsK_ret _ (.cons (.tmp rfl) .nil) fun B' y=>⟨by rw [hins];rfl,fun j x hj=>y.up _ _ (hR1.old.up a0.dom _ _ (a0.up _ _ hj))⟩
   | false =>
    have es:secT x=[]:=by unfold secT;rw [if_neg (by rw [hsg];decide)]
    rw [es,List.append_nil] at hins
    repeat (first|refine Y4k ?_|((with_reducible apply (RS.callA (g0:=42)));(iterate 3 exact rfl);exact fun B' hB'=>hJ _ _ _ B' (by first|exact hR1|exact hRow) hB'.bdom hB'.oldH (by first|exact ⟨by have:=hP2.1;omega,hP2.2⟩|exact ⟨by have:=hP1.1;omega,hP1.2⟩|exact ⟨by have:=hP0.1;omega,hP0.2⟩))|refine Y1g ?_|refine Y3l ?_|refine Y4f ?_|refine Yn ?_|((with_reducible apply (RS.pushStr (h0:=B0)));(iterate 4 exact rfl);exact hw0;exact hRow;exact (fun B' a=>(a.loc 0 (by decide:(0:Nat) < 1)).trans rfl);exact hLen;intro r1 H1 π1 s1 hR1 hr1 ho1)|refine Yc ?_|refine Y3 ?_|refine Y2 ?_|refine Y0 ?_|refine Y3v ?_|refine Y1 ?_|refine Y5 ?_|refine Y6 ?_|refine Yi ?_)
    exact endsK_ret _ (.cons (.tmp rfl) .nil) fun B' y=>⟨by rw [hins];rfl,fun j x hj=>y.up _ _ (hR1.old.up a0.dom _ _ (a0.up _ _ hj))⟩
end Go.Proofs.YtjhloakacicdiaaDoor
namespace Go.Proofs.YtjhloakacicdiaaDoor
open Go.RowKit
def RoomAt (B b K:Nat) (bs:List Value) (w:World):Prop :=
 B≤b∧∃ g cap cur,w.heap[b]?=some (.cells #[.pointer (some ⟨b,0,none⟩),.slice (some ⟨g,0,none⟩) bs.length cap] 120 (0,0))∧B≤g∧g≠b∧w.heap[g]?=some (.cells cur 5 (0,0))∧bs.length≤cap∧K≤cap∧cap≤maxLen∧cur.size=cap∧cur.toList.take bs.length=bs
theorem RoomAt.builder {B b K:Nat} {bs:List Value} {w:World} (h:RoomAt B b K bs w):Lib.BuilderAt 120 5 B b (.pointer (some ⟨b,0,none⟩)) bs w:=by
 obtain ⟨hB,g,cap,cur,h1,h2,h3,h4,h5,h6,h7,h8,h9⟩:=h
 refine ⟨hB,_,h1,⟨by simp,.inr ⟨g,cap,cur,rfl,h2,h4,h5,h7,by simpa using h8,by simpa using h9⟩⟩,?_⟩
 simp [Value.ownBlock,h3]
theorem RoomAt.of {B b K:Nat} {w:World} {p:Option Addr} {cap0:Nat} (h:Lib.BuilderAt 120 5 B b (.pointer (some ⟨b,0,none⟩)) [] w) (hc:w.cell? ⟨b,1,none⟩=some (.slice p 0 cap0)) (hK:K≤cap0) (h0:0 < K):RoomAt B b K [] w:=by
 obtain ⟨hB,v,hbk,hown,hne⟩:=h
 have c1:w.cell? ⟨b,1,none⟩=some v:=by rw [Lib.cell_of_heap hbk];rfl
 rw [hc] at c1
 injection c1 with c1
 rcases hown.2 with ⟨hv,_⟩|⟨g,cap,cur,hv,g1,g2,g3,g4,g5,g6⟩
 ·rw [hv] at c1
  injection c1 with _ _ e
  omega
 ·rw [hv] at c1 hbk hne
  injection c1 with _ _ e
  subst e
  refine ⟨hB,g,cap0,cur,hbk,g1,?_,g2,by simp,hK,g4,by simpa using g5,by simp⟩
  intro e
  subst e
  exact hne rfl
theorem wpList_room {P:Program} {w:World} {ops:Array Oper} {rest:List Oper} {o:Oper} {a:Act} {Q:Exit→Act→World→Prop} (hgd:o.guard=none) (sl x:Operand) (t u:TypeId)
 (ho:o.op=.call { callee:=.builtin .append,args:=#[sl,x],argTypes:=#[t,u] }) (e:TypeId) (i:TypeInfo) (ht:P.underlying t=some (.slice e)) (hu:P.underlying u=some .string) (hi:P.info? e=some i) (hsize:i.size=1)
 (g n cap:Nat) (cur:Array Value) (hs:a.eval sl=.slice (some ⟨g,0,none⟩) n cap) (hg:w.heap[g]?=some (.cells cur e (0,0))) (s:ByteArray) (hx:a.eval x=.string s) (hroom:n+s.size≤cap) (hfit:n+s.size≤cur.size)
 (h:∀ w',Hid (w'=w.setRow g (cur.toList.take n++Lib.strCells s++cur.toList.drop (n+s.size)).toArray)→wpList P ops Q rest (a.put o.dst (.slice (some ⟨g,0,none⟩) (n+s.size) cap)) w'):wpList P ops Q (o::rest) a w:=by
 refine wpList_plain hgd fun K hK=>?_
 have hr:=Lib.run_append_room_string (P:=P) w t u o.type e i ht hu hi hsize g n cap cur hg s hroom hfit
 unfold Oper.wp execOp
 simp only [ho,resolve,invoke,builtin,Sem.run_bind,Sem.run_pure,Result.andThen_ok,List.map_toArray,List.map_cons,List.map_nil,hs,hx,hr]
 exact hK _ _ (h _ (Lib.hid rfl))
set_option maxHeartbeats 2000000 in
set_option maxRecDepth 100000 in
theorem ws_room (B b K:Nat) (bs:List Value) (s:ByteArray) (w:World) (h:RoomAt B b K bs w) (hl:bs.length+s.size≤K) :
 Calls Tryd.prog 68 #[.pointer (some ⟨b,0,none⟩),.string s] w fun e w'=>e=.returned (.tuple #[.int .i64 s.size,.nilIface])∧RoomAt B b K (bs++Lib.strCells s) w'∧Below B w w':=by
 obtain ⟨i0,hi,hz0,hz1,hz2⟩:=info_parts Tryd.Builder_Extra_156.infoByte
 obtain ⟨hB,g,cap,cur,h1,h2,h3,h4,h5,h6,h7,h8,h9⟩:=h
 have c0:w.cell? ⟨b,0,none⟩=some (.pointer (some ⟨b,0,none⟩)):=by rw [Lib.cell_of_heap h1];rfl
 have c1:w.cell? ⟨b,1,none⟩=some (.slice (some ⟨g,0,none⟩) bs.length cap):=by rw [Lib.cell_of_heap h1];rfl
 go_enter Tryd.func68,Tryd.ntmps68
 go_wp2_with fail
 refine (Any.Builder_copyCheck_used { Tryd.lays156 with } Tryd.Builder_Extra_156.toX72 b _ c0).mono ?_
 rintro e w1 ⟨rfl,rfl⟩
 go_wp2_with (at_builtin;refine wpList_room rfl _ _ 28 9 rfl 5 i0 Tryd.underlying28 Tryd.underlying9 hi hz1 g bs.length cap cur rfl h4 s rfl (by omega) (by omega) ?_)
 intro w2 hw2
 have hw2:=hw2.out
 have hb2:=(setRow_other w1 g b (bs++(Lib.strCells s++cur.toList.drop (bs.length+s.size))).toArray (Ne.symm h3)).trans h1
 have hg2:=setRow_heap w1 g cur (bs++(Lib.strCells s++cur.toList.drop (bs.length+s.size))).toArray _ _ h4
 have hcs:((bs++(Lib.strCells s++cur.toList.drop (bs.length+s.size))).toArray).size=cap:=by
  simp only [List.size_toArray,List.length_append,List.length_drop,Array.length_toList,Lib.strCells_length]
  omega
 have htk:((bs++(Lib.strCells s++cur.toList.drop (bs.length+s.size))).toArray).toList.take (bs++Lib.strCells s).length=bs++Lib.strCells s:=by
  rw [← List.append_assoc]
  exact List.take_left
 have hbl:Below B w1 (w1.setRow g (bs++(Lib.strCells s++cur.toList.drop (bs.length+s.size))).toArray):=⟨rfl,rfl,rfl,by simp,fun k hk=>setRow_other w1 g k _ (by omega)⟩
 rw [← hw2] at hb2 hg2 hbl
 clear hw2
 generalize (bs++(Lib.strCells s++cur.toList.drop (bs.length+s.size))).toArray=cur2 at *
 have d0:w2.cell? ⟨b,0,none⟩=some (.pointer (some ⟨b,0,none⟩)):=by rw [Lib.cell_of_heap hb2];rfl
 have d1:w2.cell? ⟨b,1,none⟩=some (.slice (some ⟨g,0,none⟩) bs.length cap):=by rw [Lib.cell_of_heap hb2];rfl
 have f1:w2.frozen? ⟨b,1,none⟩=false:=Lib.frozen_of_heap hb2 1
 go_wp2
 go_ret2
 refine ⟨rfl,⟨hB,g,cap,cur2,?_,h2,h3,?_,?_,h6,h7,hcs,htk⟩,hbl.setCell (p:=⟨b,1,none⟩) hB _⟩
 ·have e:(bs++Lib.strCells s).length=bs.length+s.size:=by rw [List.length_append,Lib.strCells_length]
  rw [e]
  simp [World.setCell,Array.getElem?_modify,hb2]
 ·rw [Below.heap_setCell _ _ _ _ h3];exact hg2
 ·rw [List.length_append,Lib.strCells_length];omega
end Go.Proofs.YtjhloakacicdiaaDoor
namespace Go.Proofs.YtjhloakacicdiaaDoor
open Go.RowKit
theorem room_text {B b K:Nat} {l:List UInt8} {w:World} (h:RoomAt B b K (Lib.byteCells l) w):Lib.IsBuilder 120 5 B b (Lib.byteCells l) w:=.inr h.builder
def partJ (sep x0:List UInt8) (r:List (List UInt8)) (k:Nat):List UInt8:=x0++Lib.joinTail sep (r.take k)
theorem partJ_succ {sep x0:List UInt8} {r:List (List UInt8)} {k:Nat} {y:List UInt8} (h:r[k]?=some y):partJ sep x0 r (k+1)=partJ sep x0 r k++sep++y:=by
 unfold partJ
 rw [Lib.joinTail_take_succ sep r k y h]
 simp [List.append_assoc]
theorem partJ_le (sep x0:List UInt8) (r:List (List UInt8)) (k:Nat):(partJ sep x0 r k).length≤(Lib.join (x0::r) sep).length:=by
 unfold partJ
 rw [Lib.join_cons,List.length_append,List.length_append]
 have:=Lib.joinTail_take_le sep r k
 omega
theorem partJ_all (sep x0:List UInt8) (r:List (List UInt8)):partJ sep x0 r r.length=Lib.join (x0::r) sep:=by
 unfold partJ
 rw [List.take_length,Lib.join_cons]
set_option maxHeartbeats 4000000 in
set_option maxRecDepth 100000 in
theorem join_big (bk o c:Nat) (x0:ByteArray) (r:List ByteArray) (sep:ByteArray) (w:World) (hcells:∀ (j:Nat) x,(x0::r)[j]?=some x→w.cell? ⟨bk,o+j,none⟩=some (.string x)) (hbk:bk < w.heap.size) (N:Nat) (hN0:N=r.length+1) (h2:2≤N) (hN:N≤140737488355328) (hcap:N≤c)
 (K:Nat) (hK:(Lib.join ((x0::r).map (·.data.toList)) sep.data.toList).length=K) (h0:0 < K) (hlen:K≤281474976710656) :
 Calls Tryd.prog 42 #[.slice (some ⟨bk,o,none⟩) N c,.string sep] w fun e w'=>e=.returned (.string ⟨(Lib.join ((x0::r).map (·.data.toList)) sep.data.toList).toArray⟩)∧Below w.heap.size w w':=by
 have HC:=Lib.hid hcells
 clear hcells
 have hsum:sep.size * (N - 1)+Lib.lens ((x0::r).map (·.data.toList))=K:=by
  rw [← hK,List.map_cons,Lib.join_length,List.length_map,Lib.size_eq,hN0,Nat.add_sub_cancel]
 have HK:=Lib.hid hK
 have HN:=Lib.hid hN0
 clear hK hN0
 have hmul:sep.size * (N - 1)≤281474976710656:=by omega
 generalize hM:sep.size * (N - 1)=M at hsum hmul
 have hcast:((N:Int) - 1)=((N - 1:Nat):Int):=by omega
 have hlt:sep.size < 9223372036854775807 / (N - 1):=by
  have:sep.size+1≤9223372036854775807 / (N - 1):=by
   rw [Nat.le_div_iff_mul_le (by omega),Nat.add_mul,hM]
   omega
  omega
 have hdv:¬ (9223372036854775807 / ((N:Int) - 1)≤(sep.size:Int)):=by
  have e:(9223372036854775807:Int) / ((N - 1:Nat):Int)=((9223372036854775807 / (N - 1):Nat):Int):=IntWalk.up_div (x:=9223372036854775807) rfl rfl
  rw [hcast,e]
  generalize 9223372036854775807 / (N - 1)=q at hlt
  omega
 have hprod:wrap64 ((sep.size:Int) * ((N:Int) - 1))=(M:Int):=by
  have e:(sep.size:Int) * ((N - 1:Nat):Int)=((sep.size * (N - 1):Nat):Int):=IntWalk.up_mul rfl rfl
  rw [hcast,e,hM]
  exact IntWalk.wrap64_in _ ⟨by omega,by omega⟩
 have hM0:sep.size=0→M=0:=fun h=>by rw [← hM,h,Nat.zero_mul]
 clear hlt hcast
 have hne0:((N:Int) == 0)=false:=beq_eq_false_iff_ne.2 (by omega)
 have hne1:((N:Int) == 1)=false:=beq_eq_false_iff_ne.2 (by omega)
 go_enter Tryd.func42,Tryd.ntmps42
 go_wp2_with fail
 all_goals (
  go_loop [5,41] (fun n i=>∃ k:Nat,k≤N∧i=.int .i64 k∧n=.int .i64 ((M+Lib.lens (((x0::r).map (·.data.toList)).take k):Nat):Int)) (fun _ i=>N - (intOf i).toNat)
  case atStart=>exact ⟨0,Nat.zero_le _,rfl,by first|(simp [Lib.lens];done)|(have:=hM0 (by omega);simp [Lib.lens,this])⟩
  case round =>
   obtain ⟨k,hk,rfl,rfl⟩:=hrel
   by_cases hkn:k < N
   ·obtain ⟨x,hx⟩:∃ x,(x0::r)[k]?=some x:=⟨_,List.getElem?_eq_getElem (by rw [List.length_cons,← HN.out];exact hkn)⟩
    have hc:=HC.out k x hx
    have hstep:=Lib.lens_take_succ ((x0::r).map (·.data.toList)) k x.data.toList (by rw [List.getElem?_map,hx];rfl)
    have hbound:Lib.lens (((x0::r).map (·.data.toList)).take (k+1))≤Lib.lens ((x0::r).map (·.data.toList)):=Lib.lens_take_le _ _
    rw [← Lib.size_eq] at hstep
    generalize hA1:Lib.lens (((x0::r).map (·.data.toList)).take (k+1))=A1 at hstep hbound
    generalize Lib.lens (((x0::r).map (·.data.toList)).take k)=A0 at hstep
    have HA1:=Lib.hid hA1
    clear hA1 hx
    go_wp2
    exact ⟨⟨k+1,by omega,by go_num,by rw [HA1.out];refine congrArg _ ?_;omega⟩,by simp [intOf];omega⟩
   ·have hke:k=N:=by omega
    have hall:((x0::r).map (·.data.toList)).take k=(x0::r).map (·.data.toList):=List.take_of_length_le (by rw [List.length_map,List.length_cons,← HN.out,hke];exact Nat.le_refl _)
    rw [hall]
    clear hall
    subst hke
    generalize hT:Lib.lens ((x0::r).map (·.data.toList))=T at hsum
    clear hT
    go_wp2_with fail
    refine (Tryd.Builder_Grow_fresh_cap w.heap.size w.heap.size K _ (Nat.le_refl _) (heap_alloc_new w _) (by simp) (by omega)).mono ?_
    rintro e w1 ⟨rfl,⟨hb,hbel⟩,p,cap,hcell,hroom⟩
    have hB1:Below w.heap.size w w1:=((Below.refl w.heap.size w).alloc (Nat.le_refl _) _).trans hbel
    have hc0:w1.cell? ⟨bk,o,none⟩=some (.string x0):=by
     rw [hB1.cell (p:=⟨bk,o,none⟩) hbk]
     exact HC.out 0 x0 rfl
    have H1:=Lib.hid (RoomAt.of hb hcell hroom h0)
    have Hb1:=Lib.hid hB1
    have hBw1:w.heap.size≤w1.heap.size:=hB1.size
    clear hb hbel hcell hroom hB1
    have hfull:(Lib.join (x0.data.toList::r.map (·.data.toList)) sep.data.toList).length=K:=HK.out
    have Hle:=Lib.hid (fun k=>hfull ▸ partJ_le sep.data.toList x0.data.toList (r.map (·.data.toList)) k:∀ k,(partJ sep.data.toList x0.data.toList (r.map (·.data.toList)) k).length≤K)
    clear hfull
    go_wp2_with fail
    refine (ws_room w.heap.size w.heap.size K [] x0 w1 H1.out (by have:=Hle.out 0;simp [partJ,Lib.joinTail] at this ⊢;omega)).mono ?_
    rintro e w2 ⟨rfl,hr2,hb2⟩
    have hstart:([]:List Value)++Lib.strCells x0=Lib.byteCells (partJ sep.data.toList x0.data.toList (r.map (·.data.toList)) 0):=by
     simp [partJ,Lib.joinTail,Lib.strCells_eq]
    rw [hstart] at hr2
    have H2:=Lib.hid hr2
    have Hb2:=Lib.hid (Hb1.out.trans hb2)
    clear hr2 hb2 hstart
    have hrl:r.length=k - 1:=by have:=HN.out;omega
    go_wp2_with fail
    go_loopw [65] (fun i wr=>∃ k:Nat,k≤r.length∧i=.int .i64 k∧Hid (RoomAt w.heap.size w.heap.size K (Lib.byteCells (partJ sep.data.toList x0.data.toList (r.map (·.data.toList)) k)) wr)∧Hid (Below w.heap.size w wr)) (fun i _=>r.length - (intOf i).toNat)
    case atStart=>exact ⟨0,Nat.zero_le _,rfl,H2,Hb2⟩
    case round =>
     obtain ⟨j,hj,rfl,HR,HW⟩:=hrel
     by_cases hjr:j < r.length
     ·obtain ⟨y,hy⟩:∃ y,r[j]?=some y:=⟨r[j],List.getElem?_eq_getElem hjr⟩
      have hcy:wr.cell? ⟨bk,o+1+j,none⟩=some (.string y):=by
       rw [HW.out.cell (p:=⟨bk,o+1+j,none⟩) hbk,show o+1+j=o+(j+1) by omega]
       exact HC.out (j+1) y (by simpa using hy)
      have hpj:=partJ_succ (sep:=sep.data.toList) (x0:=x0.data.toList) (r:=r.map (·.data.toList)) (k:=j) (y:=y.data.toList) (by rw [List.getElem?_map,hy];rfl)
      have hnext:Lib.byteCells (partJ sep.data.toList x0.data.toList (r.map (·.data.toList)) j)++Lib.strCells sep++Lib.strCells y=Lib.byteCells (partJ sep.data.toList x0.data.toList (r.map (·.data.toList)) (j+1)):=by
       rw [hpj,Lib.strCells_eq,Lib.strCells_eq,← Lib.byteCells_append,← Lib.byteCells_append]
      have hl1:=Hle.out (j+1)
      rw [hpj] at hl1
      simp only [List.length_append,← Lib.size_eq] at hl1
      have hl0:(Lib.byteCells (partJ sep.data.toList x0.data.toList (r.map (·.data.toList)) j)).length=(partJ sep.data.toList x0.data.toList (r.map (·.data.toList)) j).length:=Lib.byteCells_length _
      generalize (partJ sep.data.toList x0.data.toList (r.map (·.data.toList)) j).length=J at hl0 hl1
      have Hn:=Lib.hid hnext
      clear hnext hy hpj
      go_wp2_with fail
      refine (ws_room w.heap.size w.heap.size K _ sep wr HR.out (by rw [hl0];omega)).mono ?_
      rintro e w3 ⟨rfl,hr3,hb3⟩
      have H3:=Lib.hid hr3
      have Hb3:=Lib.hid hb3
      clear hr3 hb3
      go_wp2_with fail
      refine (ws_room w.heap.size w.heap.size K _ y w3 H3.out (by rw [List.length_append,hl0,Lib.strCells_length];omega)).mono ?_
      rintro e w4 ⟨rfl,hr4,hb4⟩
      rw [Hn.out] at hr4
      have H4:=Lib.hid hr4
      have Hb4:=Lib.hid ((HW.out.trans Hb3.out).trans hb4)
      clear hr4 hb4
      go_wp2
      exact ⟨⟨j+1,by omega,by go_num,H4,Hb4⟩,by simp [intOf];omega⟩
     ·have hje:j=(r.map (·.data.toList)).length:=by rw [List.length_map];omega
      have hroom:=HR.out
      rw [hje,partJ_all] at hroom
      have hBw:w.heap.size≤wr.heap.size:=HW.out.size
      have Hroom:=Lib.hid hroom
      clear hroom hje
      go_wp2_with fail
      refine (Tryd.Builder_String_any w.heap.size w.heap.size _ wr (room_text Hroom.out) hBw).mono ?_
      rintro e w5 ⟨rfl,hb5⟩
      have Hb5:=Lib.hid (HW.out.trans hb5)
      clear hb5
      go_wp2
      go_ret
      exact ⟨rfl,Hb5.out⟩)
open Go.AH
theorem sjoinB_tf (xs:List ByteArray) (sep:ByteArray) (r:Nat) (h h0:Hp) (hI:RowI h0 r xs h) (h0w:rwM≤h0.n) (hN:xs.length≤140737488355328) (hlen:(Lib.join (xs.map (·.data.toList)) sep.data.toList).length≤281474976710656) :
 TF Tryd.prog 42 ⟨[rowVl 1 r (strL xs),.string sep]⟩ h (.string (linesS xs sep)) h:=by
 by_cases hs:(Lib.join (xs.map (·.data.toList)) sep.data.toList).length≤140737488355328
 ·exact sjoinL_tf xs sep r h h0 hI h0w hN hs
 ·cases xs with
  | nil=>exact sjoinNone_tf sep 0 h
  | cons a l =>
   have hm:=(hI.row (by simp)).2
   have hb:rwM≤r:=Nat.le_trans h0w (hI.row (by simp)).1
   rw [rowVl_eq,strL_len,if_neg (by simp [strL]),if_neg (by simp [strL])]
   refine TF.of_below (by simp) fun ρ W ho=>?_
   have hf:=ho.fits _ _ hm
   obtain ⟨tail,fr,he,hcap,_⟩:=hf.own hb (.inl (by simp [strV]))
   have hc:(a::l).length≤renCap ρ ⟨r,0,none⟩ (capOf 1):=by
    have h1:renCap ρ ⟨r,0,none⟩ (capOf 1)=ρ.cap r:=by
     unfold renCap capOf
     rw [if_neg (by omega)]
     simp
    rw [h1,← hcap]
    simp [strV]
   have hcells:∀ (j:Nat) x,(a::l)[j]?=some x→W.cell? ⟨ρ.loc r,ρ.sh r+j,none⟩=some (.string x):=by
    intro j x hj
    have:=ho.cell (a:=⟨r,j,none⟩) hm rfl (v:=.string x) (by
     rw [List.getElem?_toArray]
     unfold strV
     rw [List.getElem?_map,hj];rfl)
    simpa [renAddr,Nat.add_comm] using this
   cases l with
   | nil =>
    have:Calls Tryd.prog 42 #[.slice (some ⟨ρ.loc r,ρ.sh r,none⟩) 1 (renCap ρ ⟨r,0,none⟩ (capOf 1)),.string sep] W fun e W'=>e=.returned (.string a)∧W'=W:=Any.strings_Join_one Tryd.lays156 Tryd.Builder_Extra_156 (ρ.loc r) (ρ.sh r) (renCap ρ ⟨r,0,none⟩ (capOf 1)) a sep W (by simpa using hcells 0 a rfl)
    refine Calls.mono (R:=fun e W'=>e=.returned (.string a)∧W'=W) (by simpa [renAddr] using this) fun e W' ⟨he,hw⟩=>⟨?_,hw ▸ RowKit.Below.refl _ _⟩
    rw [he]
    unfold linesS
    rw [List.map_cons,List.map_nil,Lib.join_one,Lib.mk_data]
   | cons b l =>
    have:=join_big (ρ.loc r) (ρ.sh r) (renCap ρ ⟨r,0,none⟩ (capOf 1)) a (b::l) sep W hcells hf.lt (l.length+2) rfl (by omega) (by simpa using hN) (by simpa using hc) _ rfl (by omega) hlen
    simpa [renAddr,linesS] using this
end Go.Proofs.YtjhloakacicdiaaDoor
