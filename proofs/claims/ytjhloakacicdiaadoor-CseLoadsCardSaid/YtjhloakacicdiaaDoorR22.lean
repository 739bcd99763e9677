/-
  What the functions that the law reaches compute,told by plain data;it holds of programs that pass the check of right form and are light.
-/
import Derived.Lib.AppendStr
import Derived.Lib.Hide
import Derived.Test.YtjhloakacicdiaaDoorR10
import Derived.Test.YtjhloakacicdiaaDoorR21
import Derived.Test.YtjhloakacicdiaaDoorR9
import Derived.Test.YtjhloakacicdiaaDoorS2
import Derived.WalkKit
import Derived.WalkSpells
set_option linter.unusedVariables false
set_option linter.unusedSimpArgs false
namespace Go.Proofs.YtjhloakacicdiaaDoor
open Go.AH
attribute [local irreducible] W RS
def namesS:List ByteArray:=[⟨#[]⟩,⟨#[99,111,110,115,116]⟩,⟨#[99,111,112,121]⟩,⟨#[97,100,100]⟩,⟨#[115,117,98]⟩,⟨#[109,117,108]⟩,⟨#[100,105,118]⟩,⟨#[117,100,105,118]⟩,⟨#[114,101,109]⟩,⟨#[117,114,101,109]⟩,⟨#[97,110,100]⟩,⟨#[111,114]⟩,⟨#[120,111,114]⟩,⟨#[115,104,108]⟩,⟨#[115,97,114]⟩,⟨#[115,104,114]⟩,⟨#[101,113]⟩,⟨#[110,101]⟩,⟨#[108,116]⟩,⟨#[108,101]⟩,⟨#[117,108,116]⟩,⟨#[117,108,101]⟩,⟨#[101,120,116]⟩,⟨#[103,108,111,98,97,108]⟩,⟨#[115,108,111,116]⟩,⟨#[102,117,110,99]⟩,⟨#[108,111,97,100]⟩,⟨#[115,116,111,114,101]⟩,⟨#[99,97,108,108]⟩,⟨#[99,97,108,108,97,116]⟩,⟨#[111,117,116]⟩]
def NT (h:Hp):Prop:=∃ e,h.m 0=some ⟨⟨strV namesS⟩,e⟩
theorem NT.up {h H:Hp} (g:NT h) (hu:∀ i b,h.m i=some b→H.m i=some b):NT H:=by
 obtain ⟨e,he⟩:=g
 exact ⟨e,hu _ _ he⟩
def nameS (op:Int):ByteArray:=(namesS[op.toNat]?).getD ⟨#[]⟩
theorem names_at {n:Nat} (hn:n < 31):(strV namesS)[0+n * 1]?=some (.string (nameS n)):=by
 have hl:n < namesS.length:=hn
 unfold nameS strV
 rw [Nat.zero_add,Nat.mul_one,List.getElem?_map,Int.toNat_natCast,List.getElem?_eq_getElem hl]
 rfl
theorem names_len:∀ n:Fin 31,((namesS[n.val]?).getD ⟨#[]⟩).data.size≤24:=by decide +kernel
theorem nameS_size (op:Int) (h0:0≤op) (h1:op < 31):(nameS op).data.size≤24:=names_len ⟨op.toNat,by omega⟩
def dstT (x:InsS):List ByteArray:=if 0≤x.dst then [⟨#[114]⟩++itoaS x.dst++⟨#[32,61]⟩] else []
def opT (x:InsS):ByteArray:=if 0 < x.op∧x.op < 31 then nameS x.op else ⟨#[63]⟩
def opT2 (x:InsS):ByteArray:=if x.op=22∨x.op=26∨x.op=27 then (if x.signed=true then opT x++itoaS (IntKind.i64.wrap (8 * x.size))++⟨#[115]⟩ else opT x++itoaS (IntKind.i64.wrap (8 * x.size))) else opT x
def refT (x:InsS):List ByteArray:=if x.op=23∨x.op=24∨x.op=25∨x.op=28 then [⟨#[35]⟩++itoaS x.ref] else []
def offT (x:InsS):List ByteArray:=if x.off=0 then [] else [⟨#[43]⟩++itoaS x.off]
def secT (x:InsS):List ByteArray:=if x.secret=true then [⟨#[115,101,99,114,101,116]⟩] else []
def headT (x:InsS):List ByteArray:=dstT x++[opT2 x]++refT x
def partsT (x:InsS):List ByteArray:=headT x++(readsS x).map argT++offT x++secT x
def insT (x:InsS):ByteArray:=linesS (partsT x) ⟨#[32]⟩
theorem dstT_len (x:InsS):(dstT x).length≤1:=by unfold dstT;split<;>simp
theorem refT_len (x:InsS):(refT x).length≤1:=by unfold refT;split<;>simp
theorem headT_ne (x:InsS):headT x≠[]:=by unfold headT;simp
theorem headT_len (x:InsS):(headT x).length≤3:=by
 have h1:=dstT_len x
 have h2:=refT_len x
 unfold headT
 simp only [List.length_append,List.length_cons,List.length_nil]
 omega
def PartsOK (L:List ByteArray):Prop:=L.length≤200000∧∀ s∈L,s.data.size≤100
theorem reads_small (x:InsS) (hn:x.args.length≤100000):(readsS x).length≤100001:=by
 unfold readsS
 repeat' split
 all_goals (first|omega|(simp;done)|(simp;omega))
theorem reads_ok {x:InsS} (hx:x.ok):∀ a∈readsS x,a.ok:=by
 intro a ha
 unfold readsS at ha
 repeat' split at ha
 all_goals (try simp only [List.mem_cons,List.not_mem_nil,or_false] at ha)
 ·exact hx.args a ha
 ·rcases ha with rfl|ha
  ·exact hx.a
  ·exact hx.args a ha
 ·rcases ha with rfl|rfl
  ·exact hx.a
  ·exact hx.b
 ·rw [ha];exact hx.a
theorem app_size (a b:ByteArray):(a++b).data.size=a.data.size+b.data.size:=ByteArray.size_append
theorem argT_size (a:ArgS):(argT a).data.size≤25:=by
 unfold argT
 split
 ·have:=itoaS_size a.num;omega
 ·rw [app_size]
  have:=itoaS_size a.reg
  have e:(⟨#[114]⟩:ByteArray).data.size=1:=rfl
  omega
theorem opT_size (x:InsS):(opT x).data.size≤24:=by
 unfold opT
 split
 ·exact nameS_size _ (by omega) (by omega)
 ·exact Nat.le_of_ble_eq_true rfl
theorem head_parts (x:InsS):∀ s∈headT x,s.data.size≤100:=by
 have hzd:=itoaS_size x.dst
 have hzr:=itoaS_size x.ref
 have hzs:=itoaS_size (IntKind.i64.wrap (8 * x.size))
 have hzt:=opT_size x
 have e1:(⟨#[114]⟩:ByteArray).data.size=1:=rfl
 have e2:(⟨#[32,61]⟩:ByteArray).data.size=2:=rfl
 have e3:(⟨#[35]⟩:ByteArray).data.size=1:=rfl
 have e4:(⟨#[115]⟩:ByteArray).data.size=1:=rfl
 intro s hs
 unfold headT dstT refT at hs
 simp only [List.mem_append,List.mem_cons,List.not_mem_nil,or_false] at hs
 rcases hs with (hs|hs)|hs
 ·split at hs
  ·simp only [List.mem_cons,List.not_mem_nil,or_false] at hs
   rw [hs,app_size,app_size];omega
  ·cases hs
 ·rw [hs]
  unfold opT2
  repeat' split
  ·rw [app_size,app_size];omega
  ·rw [app_size];omega
  ·omega
 ·split at hs
  ·simp only [List.mem_cons,List.not_mem_nil,or_false] at hs
   rw [hs,app_size];omega
  ·cases hs
theorem parts_ok (x:InsS) (hx:x.ok) (hn:x.args.length≤100000):(headT x++(readsS x).map argT).length≤100004∧∀ s∈headT x++(readsS x).map argT,s.data.size≤100:=by
 have h1:=headT_len x
 have h2:=reads_small x hn
 refine ⟨by simp only [List.length_append,List.length_map];omega,fun s hs=>?_⟩
 rcases List.mem_append.1 hs with h|h
 ·exact head_parts x s h
 ·obtain ⟨a,_,rfl⟩:=List.mem_map.1 h
  have:=argT_size a
  omega
theorem PartsOK.snoc {L:List ByteArray} {n:Nat} (h:L.length≤n∧∀ s∈L,s.data.size≤100) {s:ByteArray} (hs:s.data.size≤100):(L++[s]).length≤n+1∧∀ s'∈L++[s],s'.data.size≤100:=by
 refine ⟨by simp only [List.length_append,List.length_cons,List.length_nil];omega,fun s' h'=>?_⟩
 rcases List.mem_append.1 h' with e|e
 ·exact h.2 s' e
 ·rw [List.mem_singleton.1 e];exact hs
set_option maxRecDepth 100000 in
set_option maxHeartbeats 0 in
theorem insT_tf (x:InsS) (hx:x.ok) (A0:Option Addr) (c0:Nat) (h:Hp) (hl:SlAt h A0 2 x.args argR) (hn:x.args.length≤100000) (hg:GT h) (ht:NT h):TF Tryd.prog 40 ⟨[.agg ⟨insC x A0 c0⟩]⟩ h (.string (insT x)) h:=by
 have hzd:=itoaS_size x.dst
 have hzr:=itoaS_size x.ref
 have hzo:=itoaS_size x.off
 have hzs:=itoaS_size (IntKind.i64.wrap (8 * x.size))
 refine TF.exact (fn:=Tryd.f40) (c:=(Tryd.f40.body.getD .skip)) Tryd.func40 (by kernel_rfl) Tryd.ntmps40 (by kernel_rfl) (fun s0=>⟨Nat.le_refl _,by simp,fun i b hb=>⟨s0.dom i b hb,s0.bd i b hb⟩⟩) fun π s0=>?_
 conv=>arg 2;whnf
 ((with_reducible apply W.seq);repeat (first|refine Y4p ?_|refine Y0 ?_|refine Y1 ?_|refine Y13 ?_))
 refine W.absorbX fun B0 π0 a0=>?_
 have hX0:B0.m (π 0)=some ⟨⟨insC x A0 c0⟩,58⟩:=a0.loc 0 (by decide:(0:Nat) < 1)
 generalize π 0=q at *
 have hXn0:=a0.dom _ _ hX0
 have hw0:rwM≤B0.n:=a0.sat.rw
 have hgB0:=hg.up a0.up
 have hX:=hX0
 have hXn:=hXn0
 have hgB:=hgB0
 ((with_reducible apply W.seq);repeat (first|refine Y15 ?_|refine Y0 ?_|refine Y1 ?_|refine Y13 ?_))
 ((with_reducible apply W.seq);repeat (fail))
 refine W.joinNT (X:=Nat) (fun r=>[(1,.pointer (some ⟨q,0,none⟩)),(3,rowVl 1 r (strL (dstT x)))]) (fun r B=>RowI B0 r (dstT x) B) ?_ ?_
 ·have hRow:RowI B0 0 [] B0:=RowI.nil 0 (Old.refl B0)
  have hLen:([]:List ByteArray).length+1≤8000000000000:=by decide
  by_cases hd:0≤x.dst
  ·have e:dstT x=[]++[⟨#[114]⟩++itoaS x.dst++⟨#[32,61]⟩]:=by unfold dstT;rw [if_pos hd];rfl
   repeat (first|refine Y1c ?_|refine Yr ?_|((with_reducible apply (RS.callA (g0:=39)));(iterate 3 exact rfl);exact fun B' hB'=>itoa_tf x.dst hx.dst B' (hgB.up fun i b hb=>hB'.up i b hb))|refine Yi ?_|((with_reducible apply (RS.pushStr (h0:=B0) (L:=[]) (r:=0)));(iterate 4 exact rfl);exact hw0;exact hRow;exact (fun B' a=>(a.loc 0 (by decide:(0:Nat) < 1)).trans rfl);exact hLen;intro r1 H1 π1 s1 hR1 hr1 ho1)|refine Y9 ?_|refine Y3 ?_|refine Y0 ?_|refine Y3y ?_|refine Y1 ?_|refine Y5 ?_)
   refine joinN_n rfl fun B' a=>⟨r1,?_,by rw [e];exact hR1.up s1.dom a.oldH⟩
   rw [e]
   (repeat' (first|exact trivial|exact rfl|apply And.intro));done
  ·have e:dstT x=[]:=by unfold dstT;rw [if_neg hd]
   repeat (first|refine Yr ?_|refine Y2 ?_|refine Y42 ?_|refine Y0 ?_|refine Y1u ?_|refine Y1 ?_|refine Y6 ?_)
   refine joinN_n rfl fun B' a=>⟨0,?_,by rw [e];exact RowI.nil 0 a.oldH⟩
   rw [e]
   (repeat' (first|exact trivial|exact rfl|apply And.intro));done
 rintro r2 B2 π2 sB2 hRow2
 have hX:=hRow2.old.up a0.dom _ _ hX0
 have hXn:=sB2.dom _ _ hX
 have hgB:=hgB0.up (hRow2.old.up a0.dom)
 ((with_reducible apply W.seq);repeat (first|refine Y15 ?_|refine Y0 ?_|refine Y1 ?_|refine Y13 ?_))
 with_reducible apply W.seq
 refine W.joinNT (X:=Nat) (fun r=>[(1,.pointer (some ⟨q,0,none⟩)),(3,rowVl 1 r (strL (dstT x))),(4,.string (opT x))]) (fun r B=>RowI B0 r (dstT x) B) ?_ ?_
 ·by_cases h0:0 < x.op
  ·by_cases h1:x.op < 31
   ·have e:opT x=nameS x.op:=by unfold opT;rw [if_pos ⟨h0,h1⟩]
    obtain ⟨te,hG0⟩:=ht
    have hG:=hRow2.old.up a0.dom _ _ (a0.up _ _ hG0)
    have hGn:=sB2.dom _ _ hG
    have hat:=names_at (n:=x.op.toNat) (by omega)
    rw [Int.toNat_of_nonneg (by omega)] at hat
    repeat (first|((with_reducible apply (RS.indexAddrArr (m:=x.op.toNat)));(iterate 3 exact rfl);exact (show _=_ from congrArg (fun z=>some (Value.int IntKind.i64 z)) (Int.toNat_of_nonneg (by omega)).symm);omega)|((with_reducible apply RS.load1B);(iterate 3 exact rfl);first|exact hG;exact hGn;exact hat|exact hX;exact hXn;exact rfl)|refine Y9 ?_|refine Yk ?_|refine Y3 ?_|refine Y0 ?_|refine Y3y ?_|refine Y1 ?_|refine Y5 ?_)
    refine joinN_n rfl fun B' a=>⟨r2,?_,hRow2.up sB2.dom a.oldH⟩
    rw [e]
    (repeat' (first|exact trivial|exact rfl|apply And.intro));done
   ·have e:opT x=⟨#[63]⟩:=by unfold opT;rw [if_neg (fun h=>h1 h.2)]
    repeat (first|refine Yr ?_|refine Y16 ?_|refine Yk ?_|refine Y3 ?_|refine Y2 ?_|refine Y0 ?_|refine Y1u ?_|refine Y1 ?_|refine Y6 ?_)
    refine joinN_n rfl fun B' a=>⟨r2,?_,hRow2.up sB2.dom a.oldH⟩
    rw [e]
    (repeat' (first|exact trivial|exact rfl|apply And.intro));done
  ·have e:opT x=⟨#[63]⟩:=by unfold opT;rw [if_neg (fun h=>h0 h.1)]
   repeat (first|refine Yr ?_|refine Y16 ?_|refine Yb ?_|refine Y2 ?_|refine Yn ?_|refine Y0 ?_|refine Y1u ?_|refine Y1 ?_|refine Y6 ?_)
   refine joinN_n rfl fun B' a=>⟨r2,?_,hRow2.up sB2.dom a.oldH⟩
   rw [e]
   (repeat' (first|exact trivial|exact rfl|apply And.intro));done
 rintro r3 B3 π3 sB3 hRow3
 have hX:=hRow3.old.up a0.dom _ _ hX0
 have hXn:=sB3.dom _ _ hX
 have hgB:=hgB0.up (hRow3.old.up a0.dom)
 have hzt:=opT_size x
 with_reducible apply W.seq
 refine W.joinNT (X:=Nat) (fun r=>[(1,.pointer (some ⟨q,0,none⟩)),(3,rowVl 1 r (strL (dstT x))),(4,.string (opT2 x))]) (fun r B=>RowI B0 r (dstT x) B) ?_ ?_
 ·by_cases hc:x.op=22∨x.op=26∨x.op=27
  ·cases hsg:x.signed with
   | true =>
    have e:opT2 x=opT x++itoaS (IntKind.i64.wrap (8 * x.size))++⟨#[115]⟩:=by unfold opT2;rw [if_pos hc,if_pos hsg]
    have hc3:x.op=22∨(¬ x.op=22∧x.op=26)∨(¬ x.op=22∧¬ x.op=26∧x.op=27):=by omega
    rcases hc3 with hc|⟨hc,hc1⟩|⟨hc,hc1,hc2⟩
    all_goals
     repeat (first|refine Y48 ?_|refine Y1c ?_|refine Yr ?_|refine Y3f ?_|refine Y9 ?_|refine Yk ?_|refine Yb ?_|refine Y3 ?_|refine Y2 ?_|refine Yt ?_|refine Yn ?_|refine Y0 ?_|refine Y3y ?_|refine Y1 ?_|refine Y5 ?_)
     refine joinN_n rfl fun B' a=>⟨r3,?_,hRow3.up sB3.dom a.oldH⟩
     rw [e]
     (repeat' (first|exact trivial|exact rfl|apply And.intro));done
   | false =>
    have e:opT2 x=opT x++itoaS (IntKind.i64.wrap (8 * x.size)):=by unfold opT2;rw [if_pos hc,if_neg (by rw [hsg];decide)]
    have hc3:x.op=22∨(¬ x.op=22∧x.op=26)∨(¬ x.op=22∧¬ x.op=26∧x.op=27):=by omega
    rcases hc3 with hc|⟨hc,hc1⟩|⟨hc,hc1,hc2⟩
    all_goals
     repeat (first|refine Y49 ?_|refine Y1c ?_|refine Yr ?_|refine Y3f ?_|refine Y9 ?_|refine Yk ?_|refine Yb ?_|refine Y3 ?_|refine Y2 ?_|refine Yt ?_|refine Yn ?_|refine Y0 ?_|refine Y1u ?_|refine Y1 ?_|refine Y5 ?_)
     refine joinN_n rfl fun B' a=>⟨r3,?_,hRow3.up sB3.dom a.oldH⟩
     rw [e]
     (repeat' (first|exact trivial|exact rfl|apply And.intro));done
  ·have e:opT2 x=opT x:=by unfold opT2;rw [if_neg hc]
   have hc1:¬ x.op=22:=by omega
   have hc2:¬ x.op=26:=by omega
   have hc4:¬ x.op=27:=by omega
   repeat (first|refine Yr ?_|refine Y16 ?_|refine Yb ?_|refine Y2 ?_|refine Y0 ?_|refine Y1u ?_|refine Y1 ?_|refine Y6 ?_)
   refine joinN_n rfl fun B' a=>⟨r3,?_,hRow3.up sB3.dom a.oldH⟩
   rw [e]
   (repeat' (first|exact trivial|exact rfl|apply And.intro));done
 rintro r4 B4 π4 sB4 hRow
 have hX:=hRow.old.up a0.dom _ _ hX0
 have hXn:=sB4.dom _ _ hX
 have hgB:=hgB0.up (hRow.old.up a0.dom)
 have hLen:(dstT x).length+1≤8000000000000:=by have:=dstT_len x;omega
 ((with_reducible apply W.seq);repeat (first|refine Yi ?_|((with_reducible apply (RS.pushStr (h0:=B0)));(iterate 4 exact rfl);exact hw0;exact hRow;exact (fun B' a=>(a.loc 0 (by decide:(0:Nat) < 1)).trans rfl);exact hLen;intro r1 H1 π1 s1 hR1 hr1 ho1)|refine Yh ?_|refine Y0 ?_|refine Y1 ?_|refine Y13 ?_))
 have hRow5:=hR1
 have hX:=hRow5.old.up a0.dom _ _ hX0
 have hXn:=s1.dom _ _ hX
 have hgB:=hgB0.up (hRow5.old.up a0.dom)
 have hRow:=hRow5
 have hLen:(dstT x++[opT2 x]).length+1≤8000000000000:=by have:=dstT_len x;simp only [List.length_append,List.length_cons,List.length_nil];omega
 with_reducible apply W.seq
 refine W.joinNT (X:=Nat) (fun r=>[(1,.pointer (some ⟨q,0,none⟩)),(3,rowVl 1 r (strL (headT x)))]) (fun r B=>RowI B0 r (headT x) B) ?_ ?_
 ·by_cases hc:x.op=23∨x.op=24∨x.op=25∨x.op=28
  ·have e:headT x=(dstT x++[opT2 x])++[⟨#[35]⟩++itoaS x.ref]:=by unfold headT refT;rw [if_pos hc]
   have hc3:x.op=23∨(¬ x.op=23∧x.op=24)∨(¬ x.op=23∧¬ x.op=24∧x.op=25)∨(¬ x.op=23∧¬ x.op=24∧¬ x.op=25∧x.op=28):=by omega
   rcases hc3 with hc|⟨hc,hc1⟩|⟨hc,hc1,hc2⟩|⟨hc,hc1,hc2,hc3⟩
   all_goals
    repeat (first|refine Y1c ?_|refine Yr ?_|((with_reducible apply (RS.callA (g0:=39)));(iterate 3 exact rfl);exact fun B' hB'=>itoa_tf x.ref hx.ref B' (hgB.up fun i b hb=>hB'.up i b hb))|refine Yi ?_|((with_reducible apply (RS.pushStr (h0:=B0)));(iterate 4 exact rfl);exact hw0;exact hRow;exact (fun B' a=>(a.loc 0 (by decide:(0:Nat) < 1)).trans rfl);exact hLen;intro r1 H1 π1 s1 hR1 hr1 ho1)|refine Y9 ?_|refine Y3 ?_|refine Y2 ?_|refine Y0 ?_|refine Ye ?_|refine Y1 ?_|refine Y5 ?_|refine Y6 ?_)
    refine joinN_n rfl fun B' a=>⟨r1,?_,by rw [e];exact hR1.up s1.dom a.oldH⟩
    rw [e]
    (repeat' (first|exact trivial|exact rfl|apply And.intro));done
  ·have e:headT x=dstT x++[opT2 x]:=by unfold headT refT;rw [if_neg hc,List.append_nil]
   have hc1:¬ x.op=23:=by omega
   have hc2:¬ x.op=24:=by omega
   have hc3:¬ x.op=25:=by omega
   have hc4:¬ x.op=28:=by omega
   repeat (first|refine Yr ?_|refine Y4l ?_|refine Y2 ?_|refine Y0 ?_|refine Ye ?_|refine Y1 ?_|refine Y6 ?_)
   refine joinN_n rfl fun B' a=>⟨r1,?_,by rw [e];exact hRow5.up s1.dom a.oldH⟩
   rw [e]
   (repeat' (first|exact trivial|exact rfl|apply And.intro));done
 rintro r6 B6 π6 sB6 hRow6
 have hX:=hRow6.old.up a0.dom _ _ hX0
 have hXn:=sB6.dom _ _ hX
 have hup6:=hRow6.old.up a0.dom
 have hl0:=hl.mono a0.up fun _ _ h=>h
 have hrdl:=readsS_len x (by omega)
 have hrl:=reads_small x hn
 have hrok:=reads_ok hx
 have hhl:=headT_len x
 repeat (first|((with_reducible apply RS.loadNB);(iterate 3 exact rfl);exact hX;exact hXn;exact Nat.le_of_ble_eq_true rfl;exact (show takeV 0 12 (insC x A0 c0)=insC x A0 c0 from rfl))|((with_reducible apply (RS.callEx (g0:=50)));(iterate 3 exact rfl);intro B6' hB6;refine ⟨_,reads_ex x A0 c0 (by omega) B6' (hl0.mono (fun i b hb=>hB6.up i b (hup6 i b hb)) fun _ _ h=>h),?_⟩;rintro v H7 π7 ⟨A7,c7,rfl,hRd,ho7⟩ sH7 hle7)|((with_reducible first|apply RS.move|apply RS.lenSl);iterate 3 exact rfl)|refine Y0 ?_|refine Y1e ?_|refine Y1 ?_)
 have hRow7:RowI B0 r6 (headT x) H7:=(hRow6.up sB6.dom (hB6.oldH.trans ho7))
 refine W.loopN (X:=Nat × Nat) (fun z=>[(1,.pointer (some ⟨q,0,none⟩)),(72,.slice A7 (readsS x).length c7),(73,.int .i64 ((readsS x).length:Int)),(74,.int .i64 (z.1:Int)),(3,rowVl 1 z.2 (strL (headT x++((readsS x).take z.1).map argT)))]) (fun z B=>z.1≤(readsS x).length∧(OffS (fun j=>j=r6) H7 B∧(z.2=r6∨H7.n≤z.2))∧RowI B0 z.2 (headT x++((readsS x).take z.1).map argT) B) (fun z=>(readsS x).length - z.1)
  (fun B' a=>⟨(0,r6),?_,⟨Nat.zero_le _,⟨a.oldH.off,.inl rfl⟩,by rw [List.take_zero,List.map_nil,List.append_nil];exact hRow7.up sH7.dom a.oldH⟩⟩) ?_
 ·rw [List.take_zero,List.map_nil,List.append_nil]
  (repeat' (first|exact trivial|exact rfl|apply And.intro));done
 rintro ⟨i,r8⟩ B8 π8 sB8 ⟨hi,⟨off8,hr8⟩,hRow⟩
 dsimp only at hi hRow hr8 ⊢
 have hgB:=hgB0.up (hRow.old.up a0.dom)
 have hLen:(headT x++((readsS x).take i).map argT).length+1≤8000000000000:=by
  simp only [List.length_append,List.length_map,List.length_take]
  omega
 by_cases hlt:i < (readsS x).length
 ·obtain ⟨a,ha⟩:∃ a,(readsS x)[i]?=some a:=⟨_,List.getElem?_eq_getElem hlt⟩
  obtain ⟨ab,ao,acs,ae,rfl,hG0,hGl,hGv⟩:=hRd.get i a ha
  have hGv:takeV (ao+i * 2) 2 acs=argC a:=hGv
  have hG:B8.m ab=some ⟨⟨acs⟩,ae⟩:=by
   rw [off8.2 ab (sH7.dom _ _ hG0) fun e=>?_]
   ·exact hG0
   ·have h1:=(hRow7.row (headT_ne x)).2
    rw [← e,hG0] at h1
    injection h1 with h1
    injection h1 with h1 _
    injection h1 with h1
    have h2:=take_nth hGv (j:=0) rfl
    rw [h1] at h2
    unfold strV at h2
    rw [List.getElem?_map] at h2
    cases h3:(headT x)[ao+i * 2+0]? with
    | none=>rw [h3] at h2;cases h2
    | some s=>rw [h3] at h2;cases h2
  have hGn:=sB8.dom _ _ hG
  have haok:=hrok a (List.mem_of_getElem? ha)
  have etk:headT x++((readsS x).take (i+1)).map argT=headT x++((readsS x).take i).map argT++[argT a]:=by
   rw [List.take_add_one,ha]
   simp
  repeat (first|refine Ya ?_|refine Y1t ?_|((with_reducible apply (RS.callA (g0:=41)));(iterate 3 exact rfl);exact fun B' hB'=>sarg_tf a haok B' (hgB.up fun i b hb=>hB'.up i b hb))|((with_reducible apply (RS.pushStr (h0:=B0)));(iterate 4 exact rfl);exact hw0;exact hRow;exact (fun B' a=>(a.loc 1 (by decide:(1:Nat) < 2)).trans rfl);exact hLen;intro r1 H1 π1 s1 hR1 hr1 ho1)|refine Yi ?_|refine Yh ?_|refine Y3 ?_|refine Yd ?_|refine Y8 ?_|refine Y4 ?_|refine Yf ?_|refine Y0 ?_|refine Ye ?_|refine Y1 ?_|refine Y5 ?_)
  refine roundN_n rfl fun B' y=>⟨(i+1,r1),?_,⟨by dsimp only;omega,⟨((off8.trans (T:=fun j=>j=r8) ho1 fun j hj e=>Or.elim hr8 (fun e'=>e.trans e') (fun e'=>by omega))).same y.oldH.off,.inr (Nat.le_trans off8.1 hr1)⟩,by dsimp only;rw [etk];exact hR1.up s1.dom y.oldH⟩,by dsimp only;omega⟩
  dsimp only
  rw [etk]
  (repeat' (first|exact trivial|exact rfl|apply And.intro));done
 ·have hni:i=(readsS x).length:=by omega
  have eall:headT x++((readsS x).take i).map argT=headT x++(readsS x).map argT:=by rw [hni,List.take_length]
  rw [eall] at hRow hLen ⊢
  have hX:=hRow.old.up a0.dom _ _ hX0
  have hXn:=sB8.dom _ _ hX
  have hP0:=parts_ok x hx hn
  have hJ:∀ (L:List ByteArray) (r:Nat) (B B':Hp),RowI B0 r L B→(∀ i b,B.m i=some b→i < B.n)→Old B B'→PartsOK L→TF Tryd.prog 42 ⟨[rowVl 1 r (strL L),.string ⟨#[32]⟩]⟩ B' (.string (linesS L ⟨#[32]⟩)) B':=by
   intro L r B B' h1 h2 h3 h4
   have hle:=join_le L ⟨#[32]⟩ 100 h4.2
   have h5:=h4.1
   have h6:L.length * (100+(⟨#[32]⟩:ByteArray).data.size)≤140737488355328:=by
    have:(⟨#[32]⟩:ByteArray).data.size=1:=rfl
    rw [this];omega
   exact sjoinL_tf L _ r B' B0 (h1.up h2 h3) hw0 (by omega) (Nat.le_trans hle h6)
  have hins:insT x=linesS (headT x++(readsS x).map argT++offT x++secT x) ⟨#[32]⟩:=rfl
  by_cases hoff:x.off=0
  ·have eo:offT x=[]:=by unfold offT;rw [if_pos hoff]
   rw [eo,List.append_nil] at hins
   cases hsg:x.secret with
   | true =>
    have es:secT x=[⟨#[115,101,99,114,101,116]⟩]:=by unfold secT;rw [if_pos hsg]
    rw [es] at hins
    have hP1:=PartsOK.snoc hP0 (s:=⟨#[115,101,99,114,101,116]⟩) (Nat.le_of_ble_eq_true rfl)
    repeat (first|refine Y48 ?_|((with_reducible apply (RS.callA (g0:=42)));(iterate 3 exact rfl);exact fun B' hB'=>hJ _ _ _ B' (by first|exact hR1|exact hRow) hB'.bdom hB'.oldH (by first|exact ⟨by have:=hP2.1;omega,hP2.2⟩|exact ⟨by have:=hP1.1;omega,hP1.2⟩|exact ⟨by have:=hP0.1;omega,hP0.2⟩))|refine Yr ?_|refine Yi ?_|((with_reducible apply (RS.pushStr (h0:=B0)));(iterate 4 exact rfl);exact hw0;exact hRow;exact (fun B' a=>(a.loc 0 (by decide:(0:Nat) < 1)).trans rfl);exact hLen;intro r1 H1 π1 s1 hR1 hr1 ho1)|refine Y9 ?_|refine Y2 ?_|refine Y0 ?_|refine Y3h ?_|refine Y1 ?_|refine Y6 ?_|refine Yl ?_)
    exact endsK_ret _ (.cons (.tmp rfl) .nil) fun B' y=>⟨by rw [hins];rfl,fun j x hj=>y.up _ _ (hR1.old.up a0.dom _ _ (a0.up _ _ hj))⟩
   | false =>
    have es:secT x=[]:=by unfold secT;rw [if_neg (by rw [hsg];decide)]
    rw [es,List.append_nil] at hins
    repeat (first|refine Y49 ?_|((with_reducible apply (RS.callA (g0:=42)));(iterate 3 exact rfl);exact fun B' hB'=>hJ _ _ _ B' (by first|exact hR1|exact hRow) hB'.bdom hB'.oldH (by first|exact ⟨by have:=hP2.1;omega,hP2.2⟩|exact ⟨by have:=hP1.1;omega,hP1.2⟩|exact ⟨by have:=hP0.1;omega,hP0.2⟩))|refine Yr ?_|refine Y9 ?_|refine Y2 ?_|refine Y0 ?_|refine Y3h ?_|refine Y1 ?_|refine Y6 ?_|refine Yl ?_)
    exact endsK_ret _ (.cons (.tmp rfl) .nil) fun B' y=>⟨by rw [hins];rfl,fun j x hj=>y.up _ _ (hRow.old.up a0.dom _ _ (a0.up _ _ hj))⟩
  ·have eo:offT x=[⟨#[43]⟩++itoaS x.off]:=by unfold offT;rw [if_neg hoff]
   rw [eo] at hins
   have hP1:=PartsOK.snoc hP0 (s:=⟨#[43]⟩++itoaS x.off) (by
    have e1:(⟨#[43]⟩++itoaS x.off).data.size=1+(itoaS x.off).data.size:=ByteArray.size_append
    rw [e1];omega)
   cases hsg:x.secret with
   | true =>
    have es:secT x=[⟨#[115,101,99,114,101,116]⟩]:=by unfold secT;rw [if_pos hsg]
    rw [es] at hins
    have hP2:=PartsOK.snoc hP1 (s:=⟨#[115,101,99,114,101,116]⟩) (Nat.le_of_ble_eq_true rfl)
    have hLen2:(headT x++(readsS x).map argT++[⟨#[43]⟩++itoaS x.off]).length+1≤8000000000000:=by have:=hP1.1;omega
    repeat (first|refine Y48 ?_|((with_reducible apply (RS.pushStr (h0:=B0)));(iterate 4 exact rfl);exact hw0;exact hR1;exact (fun B' a=>(a.loc 0 (by decide:(0:Nat) < 1)).trans rfl);exact hLen2;intro r1 H1 π1 s1 hR1 hr1 ho1)|((with_reducible apply (RS.callA (g0:=42)));(iterate 3 exact rfl);exact fun B' hB'=>hJ _ _ _ B' (by first|exact hR1|exact hRow) hB'.bdom hB'.oldH (by first|exact ⟨by have:=hP2.1;omega,hP2.2⟩|exact ⟨by have:=hP1.1;omega,hP1.2⟩|exact ⟨by have:=hP0.1;omega,hP0.2⟩))|refine Y1c ?_|refine Y38 ?_|refine Y45 ?_|refine Yi ?_|((with_reducible apply (RS.pushStr (h0:=B0)));(iterate 4 exact rfl);exact hw0;exact hRow;exact (fun B' a=>(a.loc 0 (by decide:(0:Nat) < 1)).trans rfl);exact hLen;intro r1 H1 π1 s1 hR1 hr1 ho1)|refine Y9 ?_|refine Y3 ?_|refine Y2 ?_|refine Y0 ?_|refine Y1x ?_|refine Y1 ?_|refine Y5 ?_|refine Y6 ?_|refine Yl ?_)
    exact endsK_ret _ (.cons (.tmp rfl) .nil) fun B' y=>⟨by rw [hins];rfl,fun j x hj=>y.up _ _ (hR1.old.up a0.dom _ _ (a0.up _ _ hj))⟩
   | false =>
    have es:secT x=[]:=by unfold secT;rw [if_neg (by rw [hsg];decide)]
    rw [es,List.append_nil] at hins
    repeat (first|refine Y49 ?_|((with_reducible apply (RS.callA (g0:=42)));(iterate 3 exact rfl);exact fun B' hB'=>hJ _ _ _ B' (by first|exact hR1|exact hRow) hB'.bdom hB'.oldH (by first|exact ⟨by have:=hP2.1;omega,hP2.2⟩|exact ⟨by have:=hP1.1;omega,hP1.2⟩|exact ⟨by have:=hP0.1;omega,hP0.2⟩))|refine Y1c ?_|refine Y38 ?_|refine Y45 ?_|refine Yi ?_|((with_reducible apply (RS.pushStr (h0:=B0)));(iterate 4 exact rfl);exact hw0;exact hRow;exact (fun B' a=>(a.loc 0 (by decide:(0:Nat) < 1)).trans rfl);exact hLen;intro r1 H1 π1 s1 hR1 hr1 ho1)|refine Y9 ?_|refine Y3 ?_|refine Y2 ?_|refine Y0 ?_|refine Y3h ?_|refine Y1 ?_|refine Y5 ?_|refine Y6 ?_|refine Yl ?_)
    exact endsK_ret _ (.cons (.tmp rfl) .nil) fun B' y=>⟨by rw [hins];rfl,fun j x hj=>y.up _ _ (hR1.old.up a0.dom _ _ (a0.up _ _ hj))⟩
end Go.Proofs.YtjhloakacicdiaaDoor
namespace Go.Proofs.YtjhloakacicdiaaDoor
open Go.RowKit
def RoomAt (B b K:Nat) (bs:List Value) (w:World):Prop :=
 B≤b∧∃ g cap cur,w.heap[b]?=some (.cells #[.pointer (some ⟨b,0,none⟩),.slice (some ⟨g,0,none⟩) bs.length cap] 120 (0,0))∧B≤g∧g≠b∧w.heap[g]?=some (.cells cur 5 (0,0))∧bs.length≤cap∧K≤cap∧cap≤maxLen∧cur.size=cap∧cur.toList.take bs.length=bs
theorem RoomAt.builder {B b K:Nat} {bs:List Value} {w:World} (h:RoomAt B b K bs w):Lib.BuilderAt 120 5 B b (.pointer (some ⟨b,0,none⟩)) bs w:=by
 obtain ⟨hB,g,cap,cur,h1,h2,h3,h4,h5,h6,h7,h8,h9⟩:=h
 refine ⟨hB,_,h1,⟨by simp,.inr ⟨g,cap,cur,rfl,h2,h4,h5,h7,by simpa using h8,by simpa using h9⟩⟩,?_⟩
 simp [Value.ownBlock,h3]
theorem RoomAt.of {B b K:Nat} {w:World} {p:Option Addr} {cap0:Nat} (h:Lib.BuilderAt 120 5 B b (.pointer (some ⟨b,0,none⟩)) [] w) (hc:w.cell? ⟨b,1,none⟩=some (.slice p 0 cap0)) (hK:K≤cap0) (h0:0 < K):RoomAt B b K [] w:=by
 obtain ⟨hB,v,hbk,hown,hne⟩:=h
 have c1:w.cell? ⟨b,1,none⟩=some v:=by rw [Lib.cell_of_heap hbk];rfl
 rw [hc] at c1
 injection c1 with c1
 rcases hown.2 with ⟨hv,_⟩|⟨g,cap,cur,hv,g1,g2,g3,g4,g5,g6⟩
 ·rw [hv] at c1
  injection c1 with _ _ e
  omega
 ·rw [hv] at c1 hbk hne
  injection c1 with _ _ e
  subst e
  refine ⟨hB,g,cap0,cur,hbk,g1,?_,g2,by simp,hK,g4,by simpa using g5,by simp⟩
  intro e
  subst e
  exact hne rfl
theorem wpList_room {P:Program} {w:World} {ops:Array Oper} {rest:List Oper} {o:Oper} {a:Act} {Q:Exit→Act→World→Prop} (hgd:o.guard=none) (sl x:Operand) (t u:TypeId)
 (ho:o.op=.call { callee:=.builtin .append,args:=#[sl,x],argTypes:=#[t,u] }) (e:TypeId) (i:TypeInfo) (ht:P.underlying t=some (.slice e)) (hu:P.underlying u=some .string) (hi:P.info? e=some i) (hsize:i.size=1)
 (g n cap:Nat) (cur:Array Value) (hs:a.eval sl=.slice (some ⟨g,0,none⟩) n cap) (hg:w.heap[g]?=some (.cells cur e (0,0))) (s:ByteArray) (hx:a.eval x=.string s) (hroom:n+s.size≤cap) (hfit:n+s.size≤cur.size)
 (h:∀ w',Hid (w'=w.setRow g (cur.toList.take n++Lib.strCells s++cur.toList.drop (n+s.size)).toArray)→wpList P ops Q rest (a.put o.dst (.slice (some ⟨g,0,none⟩) (n+s.size) cap)) w'):wpList P ops Q (o::rest) a w:=by
 refine wpList_plain hgd fun K hK=>?_
 have hr:=Lib.run_append_room_string (P:=P) w t u o.type e i ht hu hi hsize g n cap cur hg s hroom hfit
 unfold Oper.wp execOp
 simp only [ho,resolve,invoke,builtin,Sem.run_bind,Sem.run_pure,Result.andThen_ok,List.map_toArray,List.map_cons,List.map_nil,hs,hx,hr]
 exact hK _ _ (h _ (Lib.hid rfl))
set_option maxHeartbeats 2000000 in
set_option maxRecDepth 100000 in
theorem ws_room (B b K:Nat) (bs:List Value) (s:ByteArray) (w:World) (h:RoomAt B b K bs w) (hl:bs.length+s.size≤K) :
 Calls Tryd.prog 68 #[.pointer (some ⟨b,0,none⟩),.string s] w fun e w'=>e=.returned (.tuple #[.int .i64 s.size,.nilIface])∧RoomAt B b K (bs++Lib.strCells s) w'∧Below B w w':=by
 obtain ⟨i0,hi,hz0,hz1,hz2⟩:=info_parts Tryd.Builder_Extra_156.infoByte
 obtain ⟨hB,g,cap,cur,h1,h2,h3,h4,h5,h6,h7,h8,h9⟩:=h
 have c0:w.cell? ⟨b,0,none⟩=some (.pointer (some ⟨b,0,none⟩)):=by rw [Lib.cell_of_heap h1];rfl
 have c1:w.cell? ⟨b,1,none⟩=some (.slice (some ⟨g,0,none⟩) bs.length cap):=by rw [Lib.cell_of_heap h1];rfl
 go_enter Tryd.func68,Tryd.ntmps68
 go_wp2_with fail
 refine (Any.Builder_copyCheck_used { Tryd.lays156 with } Tryd.Builder_Extra_156.toX72 b _ c0).mono ?_
 rintro e w1 ⟨rfl,rfl⟩
 go_wp2_with (at_builtin;refine wpList_room rfl _ _ 28 9 rfl 5 i0 Tryd.underlying28 Tryd.underlying9 hi hz1 g bs.length cap cur rfl h4 s rfl (by omega) (by omega) ?_)
 intro w2 hw2
 have hw2:=hw2.out
 have hb2:=(setRow_other w1 g b (bs++(Lib.strCells s++cur.toList.drop (bs.length+s.size))).toArray (Ne.symm h3)).trans h1
 have hg2:=setRow_heap w1 g cur (bs++(Lib.strCells s++cur.toList.drop (bs.length+s.size))).toArray _ _ h4
 have hcs:((bs++(Lib.strCells s++cur.toList.drop (bs.length+s.size))).toArray).size=cap:=by
  simp only [List.size_toArray,List.length_append,List.length_drop,Array.length_toList,Lib.strCells_length]
  omega
 have htk:((bs++(Lib.strCells s++cur.toList.drop (bs.length+s.size))).toArray).toList.take (bs++Lib.strCells s).length=bs++Lib.strCells s:=by
  rw [← List.append_assoc]
  exact List.take_left
 have hbl:Below B w1 (w1.setRow g (bs++(Lib.strCells s++cur.toList.drop (bs.length+s.size))).toArray):=⟨rfl,rfl,rfl,by simp,fun k hk=>setRow_other w1 g k _ (by omega)⟩
 rw [← hw2] at hb2 hg2 hbl
 clear hw2
 generalize (bs++(Lib.strCells s++cur.toList.drop (bs.length+s.size))).toArray=cur2 at *
 have d0:w2.cell? ⟨b,0,none⟩=some (.pointer (some ⟨b,0,none⟩)):=by rw [Lib.cell_of_heap hb2];rfl
 have d1:w2.cell? ⟨b,1,none⟩=some (.slice (some ⟨g,0,none⟩) bs.length cap):=by rw [Lib.cell_of_heap hb2];rfl
 have f1:w2.frozen? ⟨b,1,none⟩=false:=Lib.frozen_of_heap hb2 1
 go_wp2
 go_ret2
 refine ⟨rfl,⟨hB,g,cap,cur2,?_,h2,h3,?_,?_,h6,h7,hcs,htk⟩,hbl.setCell (p:=⟨b,1,none⟩) hB _⟩
 ·have e:(bs++Lib.strCells s).length=bs.length+s.size:=by rw [List.length_append,Lib.strCells_length]
  rw [e]
  simp [World.setCell,Array.getElem?_modify,hb2]
 ·rw [Below.heap_setCell _ _ _ _ h3];exact hg2
 ·rw [List.length_append,Lib.strCells_length];omega
end Go.Proofs.YtjhloakacicdiaaDoor
namespace Go.Proofs.YtjhloakacicdiaaDoor
open Go.RowKit
theorem room_text {B b K:Nat} {l:List UInt8} {w:World} (h:RoomAt B b K (Lib.byteCells l) w):Lib.IsBuilder 120 5 B b (Lib.byteCells l) w:=.inr h.builder
def partJ (sep x0:List UInt8) (r:List (List UInt8)) (k:Nat):List UInt8:=x0++Lib.joinTail sep (r.take k)
theorem partJ_succ {sep x0:List UInt8} {r:List (List UInt8)} {k:Nat} {y:List UInt8} (h:r[k]?=some y):partJ sep x0 r (k+1)=partJ sep x0 r k++sep++y:=by
 unfold partJ
 rw [Lib.joinTail_take_succ sep r k y h]
 simp [List.append_assoc]
theorem partJ_le (sep x0:List UInt8) (r:List (List UInt8)) (k:Nat):(partJ sep x0 r k).length≤(Lib.join (x0::r) sep).length:=by
 unfold partJ
 rw [Lib.join_cons,List.length_append,List.length_append]
 have:=Lib.joinTail_take_le sep r k
 omega
theorem partJ_all (sep x0:List UInt8) (r:List (List UInt8)):partJ sep x0 r r.length=Lib.join (x0::r) sep:=by
 unfold partJ
 rw [List.take_length,Lib.join_cons]
set_option maxHeartbeats 4000000 in
set_option maxRecDepth 100000 in
theorem join_big (bk o c:Nat) (x0:ByteArray) (r:List ByteArray) (sep:ByteArray) (w:World) (hcells:∀ (j:Nat) x,(x0::r)[j]?=some x→w.cell? ⟨bk,o+j,none⟩=some (.string x)) (hbk:bk < w.heap.size) (N:Nat) (hN0:N=r.length+1) (h2:2≤N) (hN:N≤140737488355328) (hcap:N≤c)
 (K:Nat) (hK:(Lib.join ((x0::r).map (·.data.toList)) sep.data.toList).length=K) (h0:0 < K) (hlen:K≤281474976710656) :
 Calls Tryd.prog 42 #[.slice (some ⟨bk,o,none⟩) N c,.string sep] w fun e w'=>e=.returned (.string ⟨(Lib.join ((x0::r).map (·.data.toList)) sep.data.toList).toArray⟩)∧Below w.heap.size w w':=by
 have HC:=Lib.hid hcells
 clear hcells
 have hsum:sep.size * (N - 1)+Lib.lens ((x0::r).map (·.data.toList))=K:=by
  rw [← hK,List.map_cons,Lib.join_length,List.length_map,Lib.size_eq,hN0,Nat.add_sub_cancel]
 have HK:=Lib.hid hK
 have HN:=Lib.hid hN0
 clear hK hN0
 have hmul:sep.size * (N - 1)≤281474976710656:=by omega
 generalize hM:sep.size * (N - 1)=M at hsum hmul
 have hcast:((N:Int) - 1)=((N - 1:Nat):Int):=by omega
 have hlt:sep.size < 9223372036854775807 / (N - 1):=by
  have:sep.size+1≤9223372036854775807 / (N - 1):=by
   rw [Nat.le_div_iff_mul_le (by omega),Nat.add_mul,hM]
   omega
  omega
 have hdv:¬ (9223372036854775807 / ((N:Int) - 1)≤(sep.size:Int)):=by
  have e:(9223372036854775807:Int) / ((N - 1:Nat):Int)=((9223372036854775807 / (N - 1):Nat):Int):=IntWalk.up_div (x:=9223372036854775807) rfl rfl
  rw [hcast,e]
  generalize 9223372036854775807 / (N - 1)=q at hlt
  omega
 have hprod:wrap64 ((sep.size:Int) * ((N:Int) - 1))=(M:Int):=by
  have e:(sep.size:Int) * ((N - 1:Nat):Int)=((sep.size * (N - 1):Nat):Int):=IntWalk.up_mul rfl rfl
  rw [hcast,e,hM]
  exact IntWalk.wrap64_in _ ⟨by omega,by omega⟩
 have hM0:sep.size=0→M=0:=fun h=>by rw [← hM,h,Nat.zero_mul]
 clear hlt hcast
 have hne0:((N:Int) == 0)=false:=beq_eq_false_iff_ne.2 (by omega)
 have hne1:((N:Int) == 1)=false:=beq_eq_false_iff_ne.2 (by omega)
 go_enter Tryd.func42,Tryd.ntmps42
 go_wp2_with fail
 all_goals (
  go_loop [5,41] (fun n i=>∃ k:Nat,k≤N∧i=.int .i64 k∧n=.int .i64 ((M+Lib.lens (((x0::r).map (·.data.toList)).take k):Nat):Int)) (fun _ i=>N - (intOf i).toNat)
  case atStart=>exact ⟨0,Nat.zero_le _,rfl,by first|(simp [Lib.lens];done)|(have:=hM0 (by omega);simp [Lib.lens,this])⟩
  case round =>
   obtain ⟨k,hk,rfl,rfl⟩:=hrel
   by_cases hkn:k < N
   ·obtain ⟨x,hx⟩:∃ x,(x0::r)[k]?=some x:=⟨_,List.getElem?_eq_getElem (by rw [List.length_cons,← HN.out];exact hkn)⟩
    have hc:=HC.out k x hx
    have hstep:=Lib.lens_take_succ ((x0::r).map (·.data.toList)) k x.data.toList (by rw [List.getElem?_map,hx];rfl)
    have hbound:Lib.lens (((x0::r).map (·.data.toList)).take (k+1))≤Lib.lens ((x0::r).map (·.data.toList)):=Lib.lens_take_le _ _
    rw [← Lib.size_eq] at hstep
    generalize hA1:Lib.lens (((x0::r).map (·.data.toList)).take (k+1))=A1 at hstep hbound
    generalize Lib.lens (((x0::r).map (·.data.toList)).take k)=A0 at hstep
    have HA1:=Lib.hid hA1
    clear hA1 hx
    go_wp2
    exact ⟨⟨k+1,by omega,by go_num,by rw [HA1.out];refine congrArg _ ?_;omega⟩,by simp [intOf];omega⟩
   ·have hke:k=N:=by omega
    have hall:((x0::r).map (·.data.toList)).take k=(x0::r).map (·.data.toList):=List.take_of_length_le (by rw [List.length_map,List.length_cons,← HN.out,hke];exact Nat.le_refl _)
    rw [hall]
    clear hall
    subst hke
    generalize hT:Lib.lens ((x0::r).map (·.data.toList))=T at hsum
    clear hT
    go_wp2_with fail
    refine (Tryd.Builder_Grow_fresh_cap w.heap.size w.heap.size K _ (Nat.le_refl _) (heap_alloc_new w _) (by simp) (by omega)).mono ?_
    rintro e w1 ⟨rfl,⟨hb,hbel⟩,p,cap,hcell,hroom⟩
    have hB1:Below w.heap.size w w1:=((Below.refl w.heap.size w).alloc (Nat.le_refl _) _).trans hbel
    have hc0:w1.cell? ⟨bk,o,none⟩=some (.string x0):=by
     rw [hB1.cell (p:=⟨bk,o,none⟩) hbk]
     exact HC.out 0 x0 rfl
    have H1:=Lib.hid (RoomAt.of hb hcell hroom h0)
    have Hb1:=Lib.hid hB1
    have hBw1:w.heap.size≤w1.heap.size:=hB1.size
    clear hb hbel hcell hroom hB1
    have hfull:(Lib.join (x0.data.toList::r.map (·.data.toList)) sep.data.toList).length=K:=HK.out
    have Hle:=Lib.hid (fun k=>hfull ▸ partJ_le sep.data.toList x0.data.toList (r.map (·.data.toList)) k:∀ k,(partJ sep.data.toList x0.data.toList (r.map (·.data.toList)) k).length≤K)
    clear hfull
    go_wp2_with fail
    refine (ws_room w.heap.size w.heap.size K [] x0 w1 H1.out (by have:=Hle.out 0;simp [partJ,Lib.joinTail] at this ⊢;omega)).mono ?_
    rintro e w2 ⟨rfl,hr2,hb2⟩
    have hstart:([]:List Value)++Lib.strCells x0=Lib.byteCells (partJ sep.data.toList x0.data.toList (r.map (·.data.toList)) 0):=by
     simp [partJ,Lib.joinTail,Lib.strCells_eq]
    rw [hstart] at hr2
    have H2:=Lib.hid hr2
    have Hb2:=Lib.hid (Hb1.out.trans hb2)
    clear hr2 hb2 hstart
    have hrl:r.length=k - 1:=by have:=HN.out;omega
    go_wp2_with fail
    go_loopw [65] (fun i wr=>∃ k:Nat,k≤r.length∧i=.int .i64 k∧Hid (RoomAt w.heap.size w.heap.size K (Lib.byteCells (partJ sep.data.toList x0.data.toList (r.map (·.data.toList)) k)) wr)∧Hid (Below w.heap.size w wr)) (fun i _=>r.length - (intOf i).toNat)
    case atStart=>exact ⟨0,Nat.zero_le _,rfl,H2,Hb2⟩
    case round =>
     obtain ⟨j,hj,rfl,HR,HW⟩:=hrel
     by_cases hjr:j < r.length
     ·obtain ⟨y,hy⟩:∃ y,r[j]?=some y:=⟨r[j],List.getElem?_eq_getElem hjr⟩
      have hcy:wr.cell? ⟨bk,o+1+j,none⟩=some (.string y):=by
       rw [HW.out.cell (p:=⟨bk,o+1+j,none⟩) hbk,show o+1+j=o+(j+1) by omega]
       exact HC.out (j+1) y (by simpa using hy)
      have hpj:=partJ_succ (sep:=sep.data.toList) (x0:=x0.data.toList) (r:=r.map (·.data.toList)) (k:=j) (y:=y.data.toList) (by rw [List.getElem?_map,hy];rfl)
      have hnext:Lib.byteCells (partJ sep.data.toList x0.data.toList (r.map (·.data.toList)) j)++Lib.strCells sep++Lib.strCells y=Lib.byteCells (partJ sep.data.toList x0.data.toList (r.map (·.data.toList)) (j+1)):=by
       rw [hpj,Lib.strCells_eq,Lib.strCells_eq,← Lib.byteCells_append,← Lib.byteCells_append]
      have hl1:=Hle.out (j+1)
      rw [hpj] at hl1
      simp only [List.length_append,← Lib.size_eq] at hl1
      have hl0:(Lib.byteCells (partJ sep.data.toList x0.data.toList (r.map (·.data.toList)) j)).length=(partJ sep.data.toList x0.data.toList (r.map (·.data.toList)) j).length:=Lib.byteCells_length _
      generalize (partJ sep.data.toList x0.data.toList (r.map (·.data.toList)) j).length=J at hl0 hl1
      have Hn:=Lib.hid hnext
      clear hnext hy hpj
      go_wp2_with fail
      refine (ws_room w.heap.size w.heap.size K _ sep wr HR.out (by rw [hl0];omega)).mono ?_
      rintro e w3 ⟨rfl,hr3,hb3⟩
      have H3:=Lib.hid hr3
      have Hb3:=Lib.hid hb3
      clear hr3 hb3
      go_wp2_with fail
      refine (ws_room w.heap.size w.heap.size K _ y w3 H3.out (by rw [List.length_append,hl0,Lib.strCells_length];omega)).mono ?_
      rintro e w4 ⟨rfl,hr4,hb4⟩
      rw [Hn.out] at hr4
      have H4:=Lib.hid hr4
      have Hb4:=Lib.hid ((HW.out.trans Hb3.out).trans hb4)
      clear hr4 hb4
      go_wp2
      exact ⟨⟨j+1,by omega,by go_num,H4,Hb4⟩,by simp [intOf];omega⟩
     ·have hje:j=(r.map (·.data.toList)).length:=by rw [List.length_map];omega
      have hroom:=HR.out
      rw [hje,partJ_all] at hroom
      have hBw:w.heap.size≤wr.heap.size:=HW.out.size
      have Hroom:=Lib.hid hroom
      clear hroom hje
      go_wp2_with fail
      refine (Tryd.Builder_String_any w.heap.size w.heap.size _ wr (room_text Hroom.out) hBw).mono ?_
      rintro e w5 ⟨rfl,hb5⟩
      have Hb5:=Lib.hid (HW.out.trans hb5)
      clear hb5
      go_wp2
      go_ret
      exact ⟨rfl,Hb5.out⟩)
open Go.AH
theorem sjoinB_tf (xs:List ByteArray) (sep:ByteArray) (r:Nat) (h h0:Hp) (hI:RowI h0 r xs h) (h0w:rwM≤h0.n) (hN:xs.length≤140737488355328) (hlen:(Lib.join (xs.map (·.data.toList)) sep.data.toList).length≤281474976710656) :
 TF Tryd.prog 42 ⟨[rowVl 1 r (strL xs),.string sep]⟩ h (.string (linesS xs sep)) h:=by
 by_cases hs:(Lib.join (xs.map (·.data.toList)) sep.data.toList).length≤140737488355328
 ·exact sjoinL_tf xs sep r h h0 hI h0w hN hs
 ·cases xs with
  | nil=>exact sjoinNone_tf sep 0 h
  | cons a l =>
   have hm:=(hI.row (by simp)).2
   have hb:rwM≤r:=Nat.le_trans h0w (hI.row (by simp)).1
   rw [rowVl_eq,strL_len,if_neg (by simp [strL]),if_neg (by simp [strL])]
   refine TF.of_below (by simp) fun ρ W ho=>?_
   have hf:=ho.fits _ _ hm
   obtain ⟨tail,fr,he,hcap,_⟩:=hf.own hb (.inl (by simp [strV]))
   have hc:(a::l).length≤renCap ρ ⟨r,0,none⟩ (capOf 1):=by
    have h1:renCap ρ ⟨r,0,none⟩ (capOf 1)=ρ.cap r:=by
     unfold renCap capOf
     rw [if_neg (by omega)]
     simp
    rw [h1,← hcap]
    simp [strV]
   have hcells:∀ (j:Nat) x,(a::l)[j]?=some x→W.cell? ⟨ρ.loc r,ρ.sh r+j,none⟩=some (.string x):=by
    intro j x hj
    have:=ho.cell (a:=⟨r,j,none⟩) hm rfl (v:=.string x) (by
     rw [List.getElem?_toArray]
     unfold strV
     rw [List.getElem?_map,hj];rfl)
    simpa [renAddr,Nat.add_comm] using this
   cases l with
   | nil =>
    have:Calls Tryd.prog 42 #[.slice (some ⟨ρ.loc r,ρ.sh r,none⟩) 1 (renCap ρ ⟨r,0,none⟩ (capOf 1)),.string sep] W fun e W'=>e=.returned (.string a)∧W'=W:=Any.strings_Join_one Tryd.lays156 Tryd.Builder_Extra_156 (ρ.loc r) (ρ.sh r) (renCap ρ ⟨r,0,none⟩ (capOf 1)) a sep W (by simpa using hcells 0 a rfl)
    refine Calls.mono (R:=fun e W'=>e=.returned (.string a)∧W'=W) (by simpa [renAddr] using this) fun e W' ⟨he,hw⟩=>⟨?_,hw ▸ RowKit.Below.refl _ _⟩
    rw [he]
    unfold linesS
    rw [List.map_cons,List.map_nil,Lib.join_one,Lib.mk_data]
   | cons b l =>
    have:=join_big (ρ.loc r) (ρ.sh r) (renCap ρ ⟨r,0,none⟩ (capOf 1)) a (b::l) sep W hcells hf.lt (l.length+2) rfl (by omega) (by simpa using hN) (by simpa using hc) _ rfl (by omega) hlen
    simpa [renAddr,linesS] using this
attribute [local irreducible] W RS
theorem insT_size (x:InsS) (hx:x.ok) (hn:x.args.length≤100000):(insT x).data.size≤10200000:=by
 have hP0:=parts_ok x hx hn
 have hz:=itoaS_size x.off
 have h1:(offT x).length≤1∧∀ s∈offT x,s.data.size≤100:=by
  unfold offT
  split
  ·exact ⟨by simp,fun s hs=>by cases hs⟩
  ·refine ⟨by simp,fun s hs=>?_⟩
   rw [List.mem_singleton.1 hs,app_size]
   have e:(⟨#[43]⟩:ByteArray).data.size=1:=rfl
   omega
 have h2:(secT x).length≤1∧∀ s∈secT x,s.data.size≤100:=by
  unfold secT
  split
  ·refine ⟨by simp,fun s hs=>?_⟩
   rw [List.mem_singleton.1 hs];exact Nat.le_of_ble_eq_true rfl
  ·exact ⟨by simp,fun s hs=>by cases hs⟩
 have hp:(partsT x).length≤100006:=by
  unfold partsT
  have:=hP0.1
  simp only [List.length_append] at this ⊢
  omega
 have ha:∀ s∈partsT x,s.data.size≤100:=by
  intro s hs
  unfold partsT at hs
  rcases List.mem_append.1 hs with h|h
  ·rcases List.mem_append.1 h with h|h
   ·exact hP0.2 s h
   ·exact h1.2 s h
  ·exact h2.2 s h
 have hj:=join_le (partsT x) ⟨#[32]⟩ 100 ha
 have e:(insT x).data.size=(Lib.join ((partsT x).map (·.data.toList)) (⟨#[32]⟩:ByteArray).data.toList).length:=by
  unfold insT linesS
  simp
 have e2:(⟨#[32]⟩:ByteArray).data.size=1:=rfl
 rw [e2] at hj
 omega
def headF (f:FuncS):ByteArray:=f.name++⟨#[32]⟩++itoaS f.params++⟨#[58]⟩
def insL (x:InsS):ByteArray:=⟨#[32,32]⟩++insT x
def termT (t:TermS):ByteArray :=
 if t.kind=1 then ⟨#[32,32,106,117,109,112,32,98]⟩++itoaS t.goto
 else if t.kind=2 then ⟨#[32,32,105,102,32]⟩++nameS t.op++⟨#[32]⟩++argT t.a++⟨#[32]⟩++argT t.b++⟨#[32,98]⟩++itoaS t.goto++⟨#[32,101,108,115,101,32,98]⟩++itoaS t.els
 else ⟨#[32,32,114,101,116,32]⟩++argT t.a
def blockT (i:Nat) (b:BlockS):List ByteArray:=(⟨#[98]⟩++itoaS (i:Int)++⟨#[58]⟩)::(b.ins.map insL++[termT b.term])
def linesB:Nat→List BlockS→List ByteArray
 | _,[]=>[]
 | i,b::l=>blockT i b++linesB (i+1) l
def funcT (f:FuncS):ByteArray:=linesS (headF f::linesB 0 f.blocks) ⟨#[10]⟩++⟨#[10]⟩
theorem linesB_app:∀ (i:Nat) (a b:List BlockS),linesB i (a++b)=linesB i a++linesB (i+a.length) b
 | i,[],b=>by simp [linesB]
 | i,x::a,b=>by
  rw [List.cons_append,linesB,linesB,linesB_app (i+1) a b,List.append_assoc,List.length_cons]
  rw [show i+1+a.length=i+(a.length+1) by omega]
theorem linesB_take {bl:List BlockS} {i:Nat} {b:BlockS} (h:bl[i]?=some b):linesB 0 (bl.take (i+1))=linesB 0 (bl.take i)++blockT i b:=by
 have hl:=(List.getElem?_eq_some_iff.1 h).1
 rw [List.take_add_one,h,linesB_app,List.length_take,Nat.min_eq_left (Nat.le_of_lt hl),Nat.zero_add]
 simp [linesB]
def nlines (bl:List BlockS):Nat:=(bl.map fun b=>b.ins.length+2).sum
theorem linesB_len:∀ (i:Nat) (bl:List BlockS),(linesB i bl).length=nlines bl
 | _,[]=>rfl
 | i,b::l=>by
  have ih:=linesB_len (i+1) l
  unfold nlines at ih ⊢
  simp only [linesB,blockT,List.length_append,List.length_cons,List.length_map,List.length_nil,ih,List.map_cons,List.sum_cons]
theorem nlines_take:∀ {bl:List BlockS} {i:Nat} {b:BlockS},bl[i]?=some b→nlines (bl.take i)+(b.ins.length+2)≤nlines bl
 | [],_,_,h=>by simp at h
 | x::bl,0,b,h=>by
  simp only [List.getElem?_cons_zero,Option.some.injEq] at h
  subst h
  simp [nlines]
 | x::bl,i+1,b,h=>by
  have:=nlines_take (bl:=bl) (i:=i) (by simpa using h)
  unfold nlines at this ⊢
  simp only [List.take_succ_cons,List.map_cons,List.sum_cons]
  omega
theorem nlines_le {bl:List BlockS} (i:Nat):nlines (bl.take i)≤nlines bl:=by
 have:nlines bl=nlines (bl.take i)+nlines (bl.drop i):=by
  unfold nlines
  conv=>lhs;rw [← List.take_append_drop i bl]
  rw [List.map_append,List.sum_append]
 omega
structure GoodT (t:TermS):Prop where
 a:t.a.ok
 b:t.b.ok
 goto:fitI t.goto
 els:fitI t.els
 op:t.kind=2→0≤t.op∧t.op < 31
structure ShowOK (f:FuncS):Prop where
 par:fitI f.params
 name:f.name.data.size≤140737488351232
 lines:nlines f.blocks≤3000000
 ins:∀ b∈f.blocks,∀ x∈b.ins,x.ok∧x.args.length≤100000
 term:∀ b∈f.blocks,GoodT b.term
 len:f.blocks.length≤100000
theorem headF_size (f:FuncS):(headF f).data.size≤f.name.data.size+30:=by
 unfold headF
 rw [app_size,app_size,app_size]
 have:=itoaS_size f.params
 have e1:(⟨#[32]⟩:ByteArray).data.size=1:=rfl
 have e2:(⟨#[58]⟩:ByteArray).data.size=1:=rfl
 omega
theorem termT_size (t:TermS) (h:t.kind=2→0≤t.op∧t.op < 31):(termT t).data.size≤400:=by
 unfold termT
 have h1:=itoaS_size t.goto
 have h2:=itoaS_size t.els
 have h3:=argT_size t.a
 have h4:=argT_size t.b
 split
 ·rw [app_size]
  have e:(⟨#[32,32,106,117,109,112,32,98]⟩:ByteArray).data.size=8:=rfl
  omega
 ·split
  ·rename_i hk
   have h5:=nameS_size t.op (h hk).1 (h hk).2
   repeat rw [app_size]
   have e1:(⟨#[32,32,105,102,32]⟩:ByteArray).data.size=5:=rfl
   have e2:(⟨#[32]⟩:ByteArray).data.size=1:=rfl
   have e3:(⟨#[32,98]⟩:ByteArray).data.size=2:=rfl
   have e4:(⟨#[32,101,108,115,101,32,98]⟩:ByteArray).data.size=7:=rfl
   omega
  ·rw [app_size]
   have e:(⟨#[32,32,114,101,116,32]⟩:ByteArray).data.size=6:=rfl
   omega
theorem linesB_size:∀ (i:Nat) (bl:List BlockS),(∀ b∈bl,∀ x∈b.ins,x.ok∧x.args.length≤100000)→(∀ b∈bl,b.term.kind=2→0≤b.term.op∧b.term.op < 31)→∀ s∈linesB i bl,s.data.size≤10200002
 | _,[],_,_,s,hs=>by cases hs
 | i,b::l,hi,ht,s,hs=>by
  rw [linesB] at hs
  rcases List.mem_append.1 hs with h|h
  ·unfold blockT at h
   rcases List.mem_cons.1 h with h|h
   ·rw [h,app_size,app_size]
    have:=itoaS_size (i:Int)
    have e1:(⟨#[98]⟩:ByteArray).data.size=1:=rfl
    have e2:(⟨#[58]⟩:ByteArray).data.size=1:=rfl
    omega
   ·rcases List.mem_append.1 h with h|h
    ·obtain ⟨x,hx,rfl⟩:=List.mem_map.1 h
     obtain ⟨h1,h2⟩:=hi b (by simp) x hx
     have:=insT_size x h1 h2
     unfold insL
     rw [app_size]
     have e1:(⟨#[32,32]⟩:ByteArray).data.size=2:=rfl
     omega
    ·rw [List.mem_singleton.1 h]
     have:=termT_size b.term (ht b (by simp))
     omega
  ·exact linesB_size (i+1) l (fun c hc=>hi c (by simp [hc])) (fun c hc=>ht c (by simp [hc])) s h
theorem sz_lit (l:List UInt8):(⟨⟨l⟩⟩:ByteArray).size=l.length:=rfl
theorem itoa_sz (n:Int):(itoaS n).size≤24:=itoaS_size n
theorem argT_sz (a:ArgS):(argT a).size≤25:=argT_size a
set_option maxRecDepth 100000 in
set_option maxHeartbeats 0 in
theorem funcT_tf (f:FuncS) (hok:ShowOK f) (A1:Option Addr) (c1:Nat) (A2:Option Addr) (c2:Nat) (A3:Option Addr) (c3:Nat) (h:Hp) (hs:SlAt h A3 9 f.blocks (blockR h)) (hg:GT h) (ht:NT h):TF Tryd.prog 13 ⟨[.agg ⟨funcC f A1 c1 A2 c2 A3 c3⟩]⟩ h (.string (funcT f)) h:=by
 have hzp:=itoa_sz f.params
 have hzn:f.name.size≤140737488351232:=hok.name
 refine TF.exact (fn:=Tryd.f13) (c:=(Tryd.f13.body.getD .skip)) Tryd.func13 (by kernel_rfl) Tryd.ntmps13 (by kernel_rfl) (fun s0=>⟨Nat.le_refl _,by simp,fun i b hb=>⟨s0.dom i b hb,s0.bd i b hb⟩⟩) fun π s0=>?_
 conv=>arg 2;whnf
 ((with_reducible apply W.seq);repeat (first|refine Y4p ?_|refine Y0 ?_|refine Y1 ?_|refine Y13 ?_))
 refine W.absorbX fun B0 π0 a0=>?_
 have hF0:B0.m (π 0)=some ⟨⟨funcC f A1 c1 A2 c2 A3 c3⟩,37⟩:=a0.loc 0 (by decide:(0:Nat) < 1)
 generalize π 0=q at *
 have hFn0:=a0.dom _ _ hF0
 have hw0:rwM≤B0.n:=a0.sat.rw
 have hgB:=hg.up a0.up
 have hdB:=a0.dom
 have hF:=hF0
 have hFn:=hFn0
 ((with_reducible apply W.seq);repeat (first|refine Y15 ?_|refine Y0 ?_|refine Y1 ?_|refine Y13 ?_))
 ((with_reducible apply W.seq);repeat (first|refine Y17 ?_|refine Y29 ?_|((with_reducible apply RS.callB);(iterate 3 exact rfl);exact fun H hH=>(itoa_tf f.params hok.par H (hgB.up (base_upS hdB hH)));exact Nm_free (by simp))|refine Yi ?_|refine Y35 ?_|refine Y9 ?_|refine Y0 ?_|refine Y1 ?_|refine Y13 ?_))
 have hLok:∀ i,(headF f::linesB 0 (f.blocks.take i)).length≤3000001:=by
  intro i
  have h1:=nlines_le (bl:=f.blocks) i
  have h2:=hok.lines
  rw [List.length_cons,linesB_len]
  omega
 refine W.absorbX fun B1 π1 a1=>?_
 have hR0:RowI B0 (π0 1) [headF f] B1:=⟨a1.oldH,fun _=>⟨a1.lo 1 (by decide:(1:Nat) < 2),(a1.loc 1 (by decide:(1:Nat) < 2)).trans rfl⟩⟩
 have hF:=hR0.old.up a0.dom _ _ hF0
 have hFn:=a1.dom _ _ hF
 have hs0:SlAt B0 A3 9 f.blocks (blockR B0):=hs.mono a0.up fun _ _ h=>blockR_mono a0.up h
 repeat (first|refine Y29 ?_|refine Y23 ?_|refine Y0 ?_|refine Y1e ?_|refine Y1 ?_)
 refine W.loopN (X:=Nat × Nat) (fun z=>[(1,.pointer (some ⟨q,0,none⟩)),(21,.slice A3 f.blocks.length c3),(22,.int .i64 (f.blocks.length:Int)),(23,.int .i64 (z.1:Int)),(3,rowVl 1 z.2 (strL (headF f::linesB 0 (f.blocks.take z.1))))]) (fun z B=>z.1≤f.blocks.length∧RowI B0 z.2 (headF f::linesB 0 (f.blocks.take z.1)) B) (fun z=>f.blocks.length - z.1)
  (fun B' a=>⟨(0,π0 1),?_,⟨Nat.zero_le _,hR0.up a1.dom a.oldH⟩⟩) ?_
 ·(repeat' (first|exact trivial|exact rfl|apply And.intro));done
 rintro ⟨i,r⟩ B π2 sB ⟨hi,hRow0⟩
 dsimp only at hi hRow0 ⊢
 have hLen0:=hLok i
 have hLn:nlines (f.blocks.take i)≤nlines f.blocks:=nlines_le i
 have hll:(headF f::linesB 0 (f.blocks.take i)).length=nlines (f.blocks.take i)+1:=by rw [List.length_cons,linesB_len]
 have htot:=hok.lines
 have hNl:=hok.len
 generalize hLL:headF f::linesB 0 (f.blocks.take i)=L0 at *
 have hLL0:L0≠[]:=by rw [← hLL];simp
 by_cases hlt:i < f.blocks.length
 ·obtain ⟨b,hb⟩:∃ b,f.blocks[i]?=some b:=⟨_,List.getElem?_eq_getElem hlt⟩
  have hbm:=List.mem_of_getElem? hb
  have hnb:=nlines_take hb
  obtain ⟨gb,go,gcs,ge,rfl,hG0,hGl,X1,y1,hGv,hBI⟩:=hs0.get i b hb
  have hG:=hRow0.old.up a0.dom _ _ hG0
  have hGn:=sB.dom _ _ hG
  have hfi:fitI (i:Int):=by unfold fitI;omega
  have hrB:=sB.dom _ _ (hRow0.row hLL0).2
  ((with_reducible apply W.seq);repeat (first|refine Y3 ?_|refine Y0 ?_|refine Y1 ?_|refine Y13 ?_))
  ((with_reducible apply W.seq);repeat (first|refine Y30 ?_|refine Y5 ?_))
  ((with_reducible apply W.seq);repeat (first|(with_reducible apply W.block)))
  ((with_reducible apply W.seq);((with_reducible apply W.reg);kernel_rfl);repeat (first|refine Ya ?_|refine Y1t ?_|refine Yh ?_|refine Y4 ?_|refine Yf ?_|refine Y0 ?_));(with_reducible apply thenK_n)
  refine W.absorbX fun C π3 a3=>?_
  have hT0:C.m (π2 0)=some ⟨⟨blockC b X1 y1⟩,50⟩:=a3.loc 0 (by decide:(0:Nat) < 1)
  have htb:B.n≤π2 0:=a3.lo 0 (by decide:(0:Nat) < 1)
  generalize π2 0=tb at *
  have hTn0:=a3.dom _ _ hT0
  have hRow:=hRow0.up sB.dom a3.oldH
  have hgB:=hgB.up (hRow.old.up a0.dom)
  have hdB:=a3.dom
  have hLen:L0.length+1≤8000000000000:=by omega
  have hzi:=itoa_sz (i:Int)
  ((with_reducible apply W.seq);((with_reducible apply W.reg);kernel_rfl);repeat (first|refine Y17 ?_|((with_reducible apply RS.callB);(iterate 3 exact rfl);exact fun H hH=>(itoa_tf (i:Int) hfi H (hgB.up (base_upS hdB hH)));exact Nm_free (by simp))|((with_reducible apply (RS.pushStr (h0:=B0)));(iterate 4 exact rfl);exact hw0;exact hRow;exact (fun B' a=>(a.loc 0 (by decide:(0:Nat) < 1)).trans rfl);exact hLen;intro r1 H1 π1 s1 hR1 hr1 ho1)|refine Yi ?_|refine Yh ?_|refine Y0 ?_));(with_reducible apply thenK_n)
  have htr:tb≠r:=by omega
  have hT1:H1.m tb=some ⟨⟨blockC b X1 y1⟩,50⟩:=by rw [ho1.2 tb hTn0 htr];exact hT0
  have hr1t:tb < r1:=Nat.lt_of_lt_of_le hTn0 hr1
  have hRow1:=hR1
  have hT:=hT1
  have hTn:=s1.dom _ _ hT
  generalize hLb:L0++[⟨#[98]⟩++itoaS (i:Int)++⟨#[58]⟩]=Lb at *
  have hLbl:Lb.length=L0.length+1:=by rw [← hLb];simp
  have hLb0:Lb≠[]:=by rw [← hLb];simp
  have hbi:∀ k,k≤b.ins.length→(Lb++(b.ins.take k).map insL).length≤3000001:=by
   intro k hk
   rw [List.length_append,List.length_map,List.length_take,hLbl,hll]
   omega
  have hbt:=hok.term b hbm
  have hbo:=hbt.op
  repeat (first|((with_reducible apply RS.load1B);(iterate 3 exact rfl);exact hT;exact hTn;exact rfl)|refine Y23 ?_|refine Y0 ?_|refine Y1e ?_|refine Y1 ?_)
  refine W.loopN (X:=Nat × Nat) (fun z=>[(1,.pointer (some ⟨q,0,none⟩)),(21,.slice (some ⟨gb,go,none⟩) f.blocks.length c3),(22,.int .i64 (f.blocks.length:Int)),(23,.int .i64 (i:Int)),(5,.pointer (some ⟨tb,0,none⟩)),(36,.slice X1 b.ins.length y1),(37,.int .i64 (b.ins.length:Int)),(38,.int .i64 (z.1:Int)),(3,rowVl 1 z.2 (strL (Lb++(b.ins.take z.1).map insL)))]) (fun z D=>z.1≤b.ins.length∧RowI B0 z.2 (Lb++(b.ins.take z.1).map insL) D∧D.m tb=some ⟨⟨blockC b X1 y1⟩,50⟩∧tb < z.2) (fun z=>b.ins.length - z.1)
   (fun B' a=>⟨(0,r1),?_,⟨Nat.zero_le _,by rw [List.take_zero,List.map_nil,List.append_nil];exact hRow1.up s1.dom a.oldH,a.up _ _ hT1,hr1t⟩⟩) ?_
  ·rw [List.take_zero,List.map_nil,List.append_nil]
   (repeat' (first|exact trivial|exact rfl|apply And.intro));done
  rintro ⟨k,r4⟩ D π4 sD ⟨hk,hRow,hT,hrt⟩
  dsimp only at hk hRow hrt ⊢
  have hTn:=sD.dom _ _ hT
  have hgB:=(hg.up a0.up).up (hRow.old.up a0.dom)
  have hdB:=sD.dom
  have hLen:(Lb++(b.ins.take k).map insL).length+1≤8000000000000:=by have:=hbi k hk;omega
  have htD:=(ht.up a0.up).up (hRow.old.up a0.dom)
  by_cases hkl:k < b.ins.length
  ·obtain ⟨x,hx⟩:∃ x,b.ins[k]?=some x:=⟨_,List.getElem?_eq_getElem hkl⟩
   obtain ⟨hxo,hxn⟩:=hok.ins b hbm x (List.mem_of_getElem? hx)
   obtain ⟨xb,xo,xcs,xe,rfl,hI0,hIl,Z1,w1,hIv,hZ⟩:=hBI.get k x hx
   have hI:=hRow.old.up a0.dom _ _ hI0
   have hIn:=sD.dom _ _ hI
   have hzx:(insT x).size≤10200000:=insT_size x hxo hxn
   have etk:Lb++(b.ins.take (k+1)).map insL=Lb++(b.ins.take k).map insL++[⟨#[32,32]⟩++insT x]:=by
    rw [List.take_add_one,hx]
    simp [insL]
   have hZD:=hZ.mono (hRow.old.up a0.dom) fun _ _ h=>h
   repeat (first|refine Y17 ?_|((with_reducible apply RS.loadNB);(iterate 3 exact rfl);exact hI;exact hIn;exact hIl;exact hIv)|((with_reducible apply (RS.callA (g0:=40)));(iterate 3 exact rfl);exact fun B' hB'=>insT_tf x hxo Z1 w1 B' (hZD.mono (fun i b hb=>hB'.up i b hb) fun _ _ h=>h) hxn (hgB.up fun i b hb=>hB'.up i b hb) (htD.up fun i b hb=>hB'.up i b hb))|refine Ya ?_|((with_reducible apply (RS.pushStr (h0:=B0)));(iterate 4 exact rfl);exact hw0;exact hRow;exact (fun B' a=>(a.loc 1 (by decide:(1:Nat) < 2)).trans rfl);exact hLen;intro r1 H1 π1 s1 hR1 hr1 ho1)|refine Yi ?_|refine Yh ?_|refine Y3 ?_|refine Yd ?_|refine Y8 ?_|refine Y4 ?_|refine Yf ?_|refine Y0 ?_|refine Ye ?_|refine Y1 ?_|refine Y5 ?_)
   refine roundN_n rfl fun B' y=>⟨(k+1,r1),?_,⟨by dsimp only;omega,by dsimp only;rw [etk];exact hR1.up s1.dom y.oldH,y.up _ _ (by rw [ho1.2 tb hTn (by omega)];exact hT),Nat.lt_of_lt_of_le hTn hr1⟩,by dsimp only;omega⟩
   dsimp only
   rw [etk]
   (repeat' (first|exact trivial|exact rfl|apply And.intro));done
  ·have hke:k=b.ins.length:=by omega
   have e0:(b.ins.take k).map insL=b.ins.map insL:=by rw [hke,List.take_length]
   rw [e0] at hRow hLen ⊢
   have eall:headF f::linesB 0 (f.blocks.take (i+1))=Lb++b.ins.map insL++[termT b.term]:=by
    rw [linesB_take hb,← List.cons_append,hLL,← hLb]
    unfold blockT
    simp
   have hzg:=itoa_sz b.term.goto
   have hze:=itoa_sz b.term.els
   have hza:=argT_sz b.term.a
   have hzb:=argT_sz b.term.b
   have hkk:b.term.kind=1∨(¬ b.term.kind=1∧b.term.kind=2)∨(¬ b.term.kind=1∧¬ b.term.kind=2):=by omega
   rcases hkk with hk1|⟨hk1,hk2⟩|⟨hk1,hk2⟩
   ·have et:termT b.term=⟨#[32,32,106,117,109,112,32,98]⟩++itoaS b.term.goto:=by unfold termT;rw [if_pos hk1]
    rw [et] at eall
    repeat (first|refine Y17 ?_|((with_reducible apply RS.callB);(iterate 3 exact rfl);exact fun H hH=>(itoa_tf b.term.goto hbt.goto H (hgB.up (base_upS hdB hH)));exact Nm_free (by simp))|refine Y2f ?_|((with_reducible apply (RS.pushStr (h0:=B0)));(iterate 4 exact rfl);exact hw0;exact hRow;exact (fun B' a=>(a.loc 1 (by decide:(1:Nat) < 2)).trans rfl);exact hLen;intro r1 H1 π1 s1 hR1 hr1 ho1)|refine Yi ?_|refine Y9 ?_|refine Y3 ?_|refine Y2 ?_|refine Yd ?_|refine Y7 ?_|refine Y4 ?_|refine Yf ?_|refine Y0 ?_|refine Y39 ?_|refine Y1 ?_|refine Y5 ?_|refine Y6 ?_|refine Yl ?_)
    refine roundN_n rfl fun B' y=>⟨(i+1,r1),?_,⟨by dsimp only;omega,by dsimp only;rw [eall];exact hR1.up s1.dom y.oldH⟩,by dsimp only;omega⟩
    dsimp only
    rw [eall]
    (repeat' (first|exact trivial|exact rfl|apply And.intro));done
   ·have et:termT b.term=⟨#[32,32,105,102,32]⟩++nameS b.term.op++⟨#[32]⟩++argT b.term.a++⟨#[32]⟩++argT b.term.b++⟨#[32,98]⟩++itoaS b.term.goto++⟨#[32,101,108,115,101,32,98]⟩++itoaS b.term.els:=by unfold termT;rw [if_neg hk1,if_pos hk2]
    rw [et] at eall
    obtain ⟨hop0,hop1⟩:=hbo hk2
    obtain ⟨te,hN⟩:=htD
    have hNn:=sD.dom _ _ hN
    have hat:=names_at (n:=b.term.op.toNat) (by omega)
    rw [Int.toNat_of_nonneg (by omega)] at hat
    have hzo:(nameS b.term.op).size≤24:=nameS_size _ hop0 hop1
    have hLne:Lb++b.ins.map insL≠[]:=by simp [hLb0]
    repeat (first|refine Y17 ?_|((with_reducible apply RS.callB);(iterate 3 exact rfl);first|exact fun H hH=>(itoa_tf b.term.goto hbt.goto H (hgB.up (base_upS hdB hH)));exact Nm_free (by simp)|exact fun H hH=>(itoa_tf b.term.els hbt.els H (hgB.up (base_upS hdB hH)));exact Nm_free (by simp)|exact fun H hH=>(sarg_tf b.term.a hbt.a H (hgB.up (base_upS hdB hH)));exact Nm_free (by simp)|exact fun H hH=>(sarg_tf b.term.b hbt.b H (hgB.up (base_upS hdB hH)));exact Nm_free (by simp))|refine Y2f ?_|((with_reducible apply RS.load1B);(iterate 3 exact rfl);exact hN;exact hNn;exact hat)|((with_reducible apply (RS.indexAddrArr (m:=b.term.op.toNat)));(iterate 3 exact rfl);exact (show _=_ from congrArg (fun z=>some (Value.int IntKind.i64 z)) (Int.toNat_of_nonneg (by omega)).symm);omega)|((with_reducible apply (RS.pushStrD (q:=1)));(iterate 4 exact rfl);exact hLne;exact (hRow.row hLne).2;exact (sD.dom _ _ (hRow.row hLne).2);exact (Nat.le_trans hw0 (hRow.row hLne).1);exact Nat.le_of_ble_eq_true rfl;exact rfl;exact hLen)|refine Yi ?_|refine Y9 ?_|refine Y3 ?_|refine Y2 ?_|refine Yd ?_|refine Y7 ?_|refine Y8 ?_|refine Y4 ?_|refine Yf ?_|refine Y0 ?_|refine Y39 ?_|refine Y1 ?_|refine Y5 ?_|refine Y6 ?_|refine Yl ?_)
    have hRr:=hRow.row hLne
    refine roundN_n rfl fun B' y=>⟨(i+1,π4 2),?_,⟨by dsimp only;omega,?_⟩,by dsimp only;omega⟩
    ·dsimp only
     rw [eall]
     (repeat' (first|exact trivial|exact rfl|apply And.intro));done
    ·dsimp only
     rw [eall]
     refine ⟨⟨Nat.le_trans hRow.old.1 y.le,fun j hj=>?_⟩,fun _=>⟨Nat.le_trans hRow.old.1 (y.lo 2 (by decide:(2:Nat) < 3)),(y.loc 2 (by decide:(2:Nat) < 3)).trans rfl⟩⟩
     have e1:=y.old j (Nat.lt_of_lt_of_le hj hRow.old.1)
     rw [e1,← hRow.old.2 j hj]
     show (if j=r4 then none else D.m j)=D.m j
     rw [if_neg (by omega)]
   ·have et:termT b.term=⟨#[32,32,114,101,116,32]⟩++argT b.term.a:=by unfold termT;rw [if_neg hk1,if_neg hk2]
    rw [et] at eall
    repeat (first|refine Y17 ?_|((with_reducible apply RS.callB);(iterate 3 exact rfl);exact fun H hH=>(sarg_tf b.term.a hbt.a H (hgB.up (base_upS hdB hH)));exact Nm_free (by simp))|refine Y2f ?_|((with_reducible apply (RS.pushStr (h0:=B0)));(iterate 4 exact rfl);exact hw0;exact hRow;exact (fun B' a=>(a.loc 1 (by decide:(1:Nat) < 2)).trans rfl);exact hLen;intro r1 H1 π1 s1 hR1 hr1 ho1)|refine Yi ?_|refine Y9 ?_|refine Y2 ?_|refine Yd ?_|refine Y7 ?_|refine Y8 ?_|refine Y4 ?_|refine Yf ?_|refine Y0 ?_|refine Y39 ?_|refine Y1 ?_|refine Y6 ?_|refine Yl ?_)
    refine roundN_n rfl fun B' y=>⟨(i+1,r1),?_,⟨by dsimp only;omega,by dsimp only;rw [eall];exact hR1.up s1.dom y.oldH⟩,by dsimp only;omega⟩
    dsimp only
    rw [eall]
    (repeat' (first|exact trivial|exact rfl|apply And.intro));done
 ·have hni:i=f.blocks.length:=by omega
  have eall:L0=headF f::linesB 0 f.blocks:=by rw [← hLL,hni,List.take_length]
  have hsz:(Lib.join (L0.map (·.data.toList)) (⟨#[10]⟩:ByteArray).data.toList).length≤200000000000000:=by
   have hb:=linesB_size 0 f.blocks hok.ins fun c hc=>(hok.term c hc).op
   have h1:=headF_size f
   have h2:=hok.name
   rw [eall,List.map_cons,Lib.join_length,Lib.lens,List.map_cons,List.sum_cons,List.length_map,linesB_len]
   have h3:∀ l:List ByteArray,(∀ s∈l,s.data.size≤10200002)→((l.map (·.data.toList)).map (·.length)).sum≤l.length * 10200002:=by
    intro l
    induction l with
    | nil=>intro _;exact Nat.le_refl _
    | cons a l ih =>
     intro hl
     have i1:=ih fun s hs=>hl s (by simp [hs])
     have i2:=hl a (by simp)
     simp only [List.map_cons,List.sum_cons,List.length_cons,Array.length_toList]
     rw [Nat.succ_mul]
     omega
   have h4:=h3 _ hb
   rw [linesB_len] at h4
   have e1:(⟨#[10]⟩:ByteArray).data.toList.length=1:=rfl
   rw [e1,Array.length_toList]
   omega
  have hJ:∀ B',Old B B'→TF Tryd.prog 42 ⟨[rowVl 1 r (strL L0),.string ⟨#[10]⟩]⟩ B' (.string (linesS L0 ⟨#[10]⟩)) B':=fun B' o=>sjoinB_tf L0 _ r B' B0 (hRow0.up sB.dom o) hw0 (by omega) (by omega)
  have hzL:(linesS L0 ⟨#[10]⟩).size≤200000000000000:=by
   have e:(linesS L0 ⟨#[10]⟩).size=(Lib.join (L0.map (·.data.toList)) (⟨#[10]⟩:ByteArray).data.toList).length:=by
    unfold linesS
    show (Array.mk _).size=_
    simp
   rw [e];exact hsz
  have hfin:funcT f=linesS L0 ⟨#[10]⟩++⟨#[10]⟩:=by rw [eall];rfl
  repeat (first|refine Y17 ?_|((with_reducible apply (RS.callA (g0:=42)));(iterate 3 exact rfl);exact fun B' hB'=>hJ B' hB'.oldH)|refine Yh ?_|refine Y2 ?_|refine Y0 ?_|refine Y1x ?_|refine Y1 ?_|refine Y6 ?_|refine Yl ?_)
  exact endsK_ret _ (.cons (.tmp rfl) .nil) fun B' y=>⟨by rw [hfin];rfl,fun j x hj=>y.up _ _ (hRow0.old.up a0.dom _ _ (a0.up _ _ hj))⟩
def progT:List FuncS→ByteArray:=fun l=>l.foldl (fun s f=>s++funcT f) ⟨#[]⟩
end Go.Proofs.YtjhloakacicdiaaDoor
