/-
  What the functions that the law reaches compute,told by plain data;it holds of programs that pass the check of right form and are light.
-/
import Derived.Test.YtgpigfcagppohaaGreatDoorR8
set_option linter.unusedVariables false
set_option linter.unusedSimpArgs false
namespace Go.Proofs.YtgpigfcagppohaaGreatDoor
open Go.AH
attribute [local irreducible] W RS WR
def PureQ (lo:Nat) (h:Hp) (e:NodeS) (v:Value) (h':Hp):Prop:=∃ b,v=ptrC b∧NodeAt h' lo b e∧Old h h'
theorem convS_iff {e x:NodeS} {l:LfS} (h:convS e l=some x):∃ le,e.ty=.int le∧((sameL ⟨l.size,l.sg,l.sec || le.sec⟩ le=true∧x=e)∨(sameL ⟨l.size,l.sg,l.sec || le.sec⟩ le=false∧x=.mk 9 e.pos (.int ⟨l.size,l.sg,l.sec || le.sec⟩) false eS 0 0 [e])):=by
 unfold convS at h
 split at h
 ·rename_i le hty
  simp only [Option.some.injEq] at h
  refine ⟨le,hty,?_⟩
  cases hs:sameL ⟨l.size,l.sg,l.sec || le.sec⟩ le with
  | true=>rw [hs,if_pos rfl] at h;exact .inl ⟨rfl,h.symm⟩
  | false=>rw [hs,if_neg (by decide)] at h;exact .inr ⟨rfl,h.symm⟩
 ·cases h
theorem Sees.at {h:Hp} {π:Nat→Nat} {k:Nat} {hl:List (Nat × Option Blk)} {vl:List Nat} {H:Hp} (s:Sees ⟨h,π,k,hl⟩ true vl H) {i:Nat} {b:Blk} (hb:h.m i=some b) (hd:i < h.n):H.m i=some b:=(s.b rfl i hd).trans hb
section
variable {h:Hp}
set_option maxHeartbeats 4000000 in
theorem ints_ex {a b e:NodeS} {op:ByteArray} {p1 p2 pos:Nat} {lo:Nat} (hlo:lo≤h.n) (ha:NodeAt h lo p1 a) (hb:NodeAt h lo p2 b) (hs:intsS a b op pos=some e) {C:Value} (hC:bnd h.n C):EX Tryz.prog 197 [C,ptrC p1,ptrC p2,.string op,.int .i64 pos] h (PureQ lo h e):=by
 refine EX.intro (fn:=Tryz.f197) (c:=(Tryz.f197.body.getD .skip)) Tryz.func197 (by kernel_rfl) Tryz.ntmps197 (by kernel_rfl) fun π s0=>?_
 conv=>arg 2;whnf
 obtain ⟨tb1,tx1,nu1,re1,A1,n1,c1,hma,_⟩:=ha.cells
 obtain ⟨tb2,tx2,nu2,re2,A2,n2,c2,hmb,_⟩:=hb.cells
 have hv1:bnd h.n (ptrC p1):=by simp [ptrC];exact s0.dom _ _ hma
 have hv2:bnd h.n (ptrC p2):=by simp [ptrC];exact s0.dom _ _ hmb
 unfold intsS at hs
 split at hs
 case h_2=>cases hs
 rename_i la lb hta htb
 rw [hta] at hma
 rw [htb] at hmb
 split at hs
 ·cases hs
 rename_i ho
 simp only [others,List.any_cons,List.any_nil,Bool.or_false,Bool.or_eq_true,not_or,Bool.not_eq_true] at ho
 obtain ⟨o1,o2,o3,o4,o5,o6⟩:=ho
 split at hs
 ·rename_i hop
  obtain ⟨x,hx,hs⟩:=bind_some' hs
  obtain ⟨y,hy,hs⟩:=bind_some' hs
  simp only [Option.some.injEq] at hs
  subst hs
  obtain ⟨la',e1,hx⟩:=convS_iff hx
  obtain ⟨lb',e2,hy⟩:=convS_iff hy
  obtain rfl:la=la':=by rw [hta] at e1;injection e1
  obtain rfl:lb=lb':=by rw [htb] at e2;injection e2
  obtain ⟨sa,ga,ca⟩:=la
  cases ca
  all_goals
   rcases hx with ⟨h1,rfl⟩|⟨h1,rfl⟩
   all_goals
    rcases hy with ⟨h2,rfl⟩|⟨h2,rfl⟩
    all_goals repeat (first|((with_reducible apply RS.buildSlice);iterate 8 exact rfl)|((with_reducible apply RS.moveX);(iterate 3 exact rfl);(first|exact hC|exact hv1|exact hv2))|((with_reducible apply (RS.callR (g0:=126) true [] none));(iterate 3 exact rfl);exact fun H hH=>conv_same_tf C (Sees.at hH hma (s0.dom _ _ hma)) h1;exact trivial)|((with_reducible apply (RS.callN2 (g0:=126) true []));(iterate 3 exact rfl);exact fun H hH hn hk=>(by have:=conv_new_tf C (Sees.at hH hma (s0.dom _ _ hma)) h1;rw [hn,← hk] at this;exact this))|((with_reducible apply (RS.callR (g0:=126) true [] none));(iterate 3 exact rfl);exact fun H hH=>conv_same_tf C (Sees.at hH hmb (s0.dom _ _ hmb)) h2;exact trivial)|((with_reducible apply (RS.callN2 (g0:=126) true []));(iterate 3 exact rfl);exact fun H hH hn hk=>(by have:=conv_new_tf C (Sees.at hH hmb (s0.dom _ _ hmb)) h2;rw [hn,← hk] at this;exact this))|((with_reducible apply (RS.callP (g0:=118)));(iterate 3 exact rfl);exact fun H=>intOf_tf _ _ H;exact Nm_free (intC_free _))|((with_reducible apply (RS.callP (g0:=125)));(iterate 3 exact rfl);exact fun H=>promote_tf _ H;exact Nm_free (intC_free _))|((with_reducible apply RS.load1B);(iterate 3 exact rfl);first|exact hma;exact s0.dom _ _ hma;exact rfl|exact hmb;exact s0.dom _ _ hmb;exact rfl)|((with_reducible apply RS.loadNB);(iterate 3 exact rfl);exact hma;exact s0.dom _ _ hma;exact Nat.le_of_ble_eq_true rfl;exact rfl)|((with_reducible apply RS.binStr);(iterate 4 exact rfl);exact congrArg (fun b=>some (Value.bool b)) (by assumption))|((with_reducible first|apply RS.nilCheck|apply RS.move|apply RS.assign|apply RS.fieldAddr|apply RS.box);iterate 3 exact rfl)|((with_reducible apply RS.pickT);iterate 4 exact rfl)|((with_reducible apply RS.pickF);iterate 4 exact rfl)|((with_reducible apply RS.cmpC);iterate 5 exact rfl)|((with_reducible apply RS.loadN);(iterate 5 exact rfl);exact Nat.le_of_ble_eq_true rfl)|((with_reducible apply RS.store);(iterate 5 exact rfl);exact Nat.le_of_ble_eq_true rfl;iterate 3 exact rfl)|((with_reducible apply RS.alloc);iterate 2 exact rfl)|((with_reducible apply RS.build);iterate 4 exact rfl)|((with_reducible apply RS.skip);iterate 2 exact rfl)|((with_reducible apply RS.nil);exact mixed;kernel_rfl)|(with_reducible first|apply W.seq|apply W.block|apply W.ret|apply W.skip|apply thenK_n|apply thenK_r|apply blockK_r)|((with_reducible apply W.reg);kernel_rfl)|((with_reducible apply W.condT);kernel_rfl;exact rfl)|((with_reducible apply W.condF);kernel_rfl;exact rfl))
    all_goals
     refine endsK_ret _ (.cons (.tmp rfl) .nil) fun B' a=>⟨_,rfl,node2 (tb:=0) (a.loc _ (Nat.le_of_ble_eq_true rfl)) (alo a hlo _ rfl) trivial (a.loc _ (Nat.le_of_ble_eq_true rfl)) (alo a hlo _ rfl) ?_ ?_,a.le,a.old⟩
     ·first|exact ha.up (Absb.kx a)|exact node1 (tb:=0) (a.loc _ (Nat.le_of_ble_eq_true rfl)) (alo a hlo _ rfl) trivial (a.loc _ (Nat.le_of_ble_eq_true rfl)) (alo a hlo _ rfl) (ha.up (Absb.kx a))
     ·first|exact hb.up (Absb.kx a)|exact node1 (tb:=0) (a.loc _ (Nat.le_of_ble_eq_true rfl)) (alo a hlo _ rfl) trivial (a.loc _ (Nat.le_of_ble_eq_true rfl)) (alo a hlo _ rfl) (hb.up (Absb.kx a))
 ·rename_i hop
  have hop:eqB op (b2 60 60)=false:=by simpa using hop
  split at hs
  ·rename_i hop2
   obtain ⟨x,hx,hs⟩:=bind_some' hs
   obtain ⟨y,hy,hs⟩:=bind_some' hs
   simp only [Option.some.injEq] at hs
   subst hs
   obtain ⟨la',e1,hx⟩:=convS_iff hx
   obtain ⟨lb',e2,hy⟩:=convS_iff hy
   obtain rfl:la=la':=by rw [hta] at e1;injection e1
   obtain rfl:lb=lb':=by rw [htb] at e2;injection e2
   obtain ⟨sa,ga,ca⟩:=la
   cases ca
   all_goals
    rcases hx with ⟨h1,rfl⟩|⟨h1,rfl⟩
    all_goals
     rcases hy with ⟨h2,rfl⟩|⟨h2,rfl⟩
     all_goals repeat (first|((with_reducible apply RS.buildSlice);iterate 8 exact rfl)|((with_reducible apply RS.moveX);(iterate 3 exact rfl);(first|exact hC|exact hv1|exact hv2))|((with_reducible apply RS.loadF);(iterate 5 exact rfl);exact Nat.le_of_ble_eq_true rfl;exact intC_free _)|((with_reducible apply (RS.callR (g0:=126) true [] none));(iterate 3 exact rfl);exact fun H hH=>conv_same_tf C (Sees.at hH hma (s0.dom _ _ hma)) h1;exact trivial)|((with_reducible apply (RS.callN2 (g0:=126) true []));(iterate 3 exact rfl);exact fun H hH hn hk=>(by have:=conv_new_tf C (Sees.at hH hma (s0.dom _ _ hma)) h1;rw [hn,← hk] at this;exact this))|((with_reducible apply (RS.callR (g0:=126) true [] none));(iterate 3 exact rfl);exact fun H hH=>conv_same_tf C (Sees.at hH hmb (s0.dom _ _ hmb)) h2;exact trivial)|((with_reducible apply (RS.callN2 (g0:=126) true []));(iterate 3 exact rfl);exact fun H hH hn hk=>(by have:=conv_new_tf C (Sees.at hH hmb (s0.dom _ _ hmb)) h2;rw [hn,← hk] at this;exact this))|((with_reducible apply (RS.callP (g0:=118)));(iterate 3 exact rfl);exact fun H=>intOf_tf _ _ H;exact Nm_free (intC_free _))|((with_reducible apply (RS.callP (g0:=200)));(iterate 3 exact rfl);exact fun H=>common_tf _ _ H;exact Nm_free (intC_free _))|((with_reducible apply RS.load1B);(iterate 3 exact rfl);first|exact hma;exact s0.dom _ _ hma;exact rfl|exact hmb;exact s0.dom _ _ hmb;exact rfl)|((with_reducible apply RS.loadNB);(iterate 3 exact rfl);first|exact hma;exact s0.dom _ _ hma;exact Nat.le_of_ble_eq_true rfl;exact rfl|exact hmb;exact s0.dom _ _ hmb;exact Nat.le_of_ble_eq_true rfl;exact rfl)|((with_reducible apply RS.binStr);(iterate 4 exact rfl);exact congrArg (fun b=>some (Value.bool b)) (by assumption))|((with_reducible first|apply RS.nilCheck|apply RS.move|apply RS.assign|apply RS.fieldAddr|apply RS.box);iterate 3 exact rfl)|((with_reducible apply RS.pickF);iterate 4 exact rfl)|((with_reducible apply RS.cmpC);iterate 5 exact rfl)|((with_reducible apply RS.load1);iterate 6 exact rfl)|((with_reducible apply RS.loadN);(iterate 5 exact rfl);exact Nat.le_of_ble_eq_true rfl)|((with_reducible apply RS.store);(iterate 5 exact rfl);exact Nat.le_of_ble_eq_true rfl;iterate 3 exact rfl)|((with_reducible apply RS.alloc);iterate 2 exact rfl)|((with_reducible apply RS.build);iterate 4 exact rfl)|((with_reducible apply RS.nil);exact mixed;kernel_rfl)|(with_reducible first|apply W.seq|apply W.block|apply W.ret|apply W.skip|apply thenK_n|apply thenK_r|apply blockK_r)|((with_reducible apply W.reg);kernel_rfl)|((with_reducible apply W.condT);kernel_rfl;exact rfl)|((with_reducible apply W.condF);kernel_rfl;exact rfl))
     all_goals
      refine endsK_ret _ (.cons (.tmp rfl) .nil) fun B' a=>⟨_,rfl,node2 (tb:=0) (a.loc _ (Nat.le_of_ble_eq_true rfl)) (alo a hlo _ rfl) trivial (a.loc _ (Nat.le_of_ble_eq_true rfl)) (alo a hlo _ rfl) ?_ ?_,a.le,a.old⟩
      ·first|exact ha.up (Absb.kx a)|exact node1 (tb:=0) (a.loc _ (Nat.le_of_ble_eq_true rfl)) (alo a hlo _ rfl) trivial (a.loc _ (Nat.le_of_ble_eq_true rfl)) (alo a hlo _ rfl) (ha.up (Absb.kx a))
      ·first|exact hb.up (Absb.kx a)|exact node1 (tb:=0) (a.loc _ (Nat.le_of_ble_eq_true rfl)) (alo a hlo _ rfl) trivial (a.loc _ (Nat.le_of_ble_eq_true rfl)) (alo a hlo _ rfl) (hb.up (Absb.kx a))
  ·rename_i hop2
   have hop2:eqB op (b2 61 61)=false:=by simpa using hop2
   obtain ⟨x,hx,hs⟩:=bind_some' hs
   obtain ⟨y,hy,hs⟩:=bind_some' hs
   simp only [Option.some.injEq] at hs
   subst hs
   obtain ⟨la',e1,hx⟩:=convS_iff hx
   obtain ⟨lb',e2,hy⟩:=convS_iff hy
   obtain rfl:la=la':=by rw [hta] at e1;injection e1
   obtain rfl:lb=lb':=by rw [htb] at e2;injection e2
   obtain ⟨sa,ga,ca⟩:=la
   cases ca
   all_goals
    rcases hx with ⟨h1,rfl⟩|⟨h1,rfl⟩
    all_goals
     rcases hy with ⟨h2,rfl⟩|⟨h2,rfl⟩
     all_goals repeat (first|((with_reducible apply RS.buildSlice);iterate 8 exact rfl)|((with_reducible apply RS.moveX);(iterate 3 exact rfl);(first|exact hC|exact hv1|exact hv2))|((with_reducible apply RS.loadF);(iterate 5 exact rfl);exact Nat.le_of_ble_eq_true rfl;exact intC_free _)|((with_reducible apply (RS.callR (g0:=126) true [] none));(iterate 3 exact rfl);exact fun H hH=>conv_same_tf C (Sees.at hH hma (s0.dom _ _ hma)) h1;exact trivial)|((with_reducible apply (RS.callN2 (g0:=126) true []));(iterate 3 exact rfl);exact fun H hH hn hk=>(by have:=conv_new_tf C (Sees.at hH hma (s0.dom _ _ hma)) h1;rw [hn,← hk] at this;exact this))|((with_reducible apply (RS.callR (g0:=126) true [] none));(iterate 3 exact rfl);exact fun H hH=>conv_same_tf C (Sees.at hH hmb (s0.dom _ _ hmb)) h2;exact trivial)|((with_reducible apply (RS.callN2 (g0:=126) true []));(iterate 3 exact rfl);exact fun H hH hn hk=>(by have:=conv_new_tf C (Sees.at hH hmb (s0.dom _ _ hmb)) h2;rw [hn,← hk] at this;exact this))|((with_reducible apply (RS.callP (g0:=200)));(iterate 3 exact rfl);exact fun H=>common_tf _ _ H;exact Nm_free (intC_free _))|((with_reducible apply RS.load1B);(iterate 3 exact rfl);first|exact hma;exact s0.dom _ _ hma;exact rfl|exact hmb;exact s0.dom _ _ hmb;exact rfl)|((with_reducible apply RS.loadNB);(iterate 3 exact rfl);first|exact hma;exact s0.dom _ _ hma;exact Nat.le_of_ble_eq_true rfl;exact rfl|exact hmb;exact s0.dom _ _ hmb;exact Nat.le_of_ble_eq_true rfl;exact rfl)|((with_reducible apply RS.binStr);(iterate 4 exact rfl);exact congrArg (fun b=>some (Value.bool b)) (by assumption))|((with_reducible first|apply RS.nilCheck|apply RS.move|apply RS.assign|apply RS.fieldAddr|apply RS.box);iterate 3 exact rfl)|((with_reducible apply RS.pickF);iterate 4 exact rfl)|((with_reducible apply RS.cmpC);iterate 5 exact rfl)|((with_reducible apply RS.store);(iterate 5 exact rfl);exact Nat.le_of_ble_eq_true rfl;iterate 3 exact rfl)|((with_reducible apply RS.alloc);iterate 2 exact rfl)|((with_reducible apply RS.build);iterate 4 exact rfl)|((with_reducible apply RS.nil);exact mixed;kernel_rfl)|(with_reducible first|apply W.seq|apply W.block|apply W.ret|apply W.skip|apply thenK_n|apply blockK_n)|((with_reducible apply W.reg);kernel_rfl)|((with_reducible apply W.condF);kernel_rfl;exact rfl))
     all_goals
      refine endsK_ret _ (.cons (.tmp rfl) .nil) fun B' a=>⟨_,rfl,node2 (tb:=0) (a.loc _ (Nat.le_of_ble_eq_true rfl)) (alo a hlo _ rfl) trivial (a.loc _ (Nat.le_of_ble_eq_true rfl)) (alo a hlo _ rfl) ?_ ?_,a.le,a.old⟩
      ·first|exact ha.up (Absb.kx a)|exact node1 (tb:=0) (a.loc _ (Nat.le_of_ble_eq_true rfl)) (alo a hlo _ rfl) trivial (a.loc _ (Nat.le_of_ble_eq_true rfl)) (alo a hlo _ rfl) (ha.up (Absb.kx a))
      ·first|exact hb.up (Absb.kx a)|exact node1 (tb:=0) (a.loc _ (Nat.le_of_ble_eq_true rfl)) (alo a hlo _ rfl) trivial (a.loc _ (Nat.le_of_ble_eq_true rfl)) (alo a hlo _ rfl) (hb.up (Absb.kx a))
end
section
variable {h:Hp} {q:Pl} {st:CS}
set_option maxHeartbeats 4000000 in
theorem add_ex {a b e:NodeS} {op:ByteArray} {p1 p2 pos:Nat} (w:ChkF h q st) {lo:Nat} (hlo:lo≤h.n) (ha:NodeAt h lo p1 a) (hb:NodeAt h lo p2 b) (hs:addS a b op pos=some e):EX Tryz.prog 176 [ptrC q.cb,ptrC p1,ptrC p2,.string op,.int .i64 pos] h (PureQ lo h e):=by
 refine EX.intro (fn:=Tryz.f176) (c:=(Tryz.f176.body.getD .skip)) Tryz.func176 (by kernel_rfl) Tryz.ntmps176 (by kernel_rfl) fun π s0=>?_
 conv=>arg 2;whnf
 obtain ⟨tb1,tx1,nu1,re1,A1,n1,c1,hma,hte⟩:=ha.cells
 obtain ⟨tb2,tx2,nu2,re2,A2,n2,c2,hmb,_⟩:=hb.cells
 have hC:bnd h.n (ptrC q.cb):=by simp [ptrC];exact s0.dom _ _ w.w.c
 have hv1:bnd h.n (ptrC p1):=by simp [ptrC];exact s0.dom _ _ hma
 have hv2:bnd h.n (ptrC p2):=by simp [ptrC];exact s0.dom _ _ hmb
 unfold addS at hs
 split at hs
 case h_3=>cases hs
 case h_2 =>
  rename_i la lb hta htb
  rw [hta] at hma
  rw [htb] at hmb
  repeat (first|((with_reducible apply RS.moveX);(iterate 3 exact rfl);(first|exact hC|exact hv1|exact hv2))|((with_reducible apply RS.load1B);(iterate 3 exact rfl);first|exact hma;exact s0.dom _ _ hma;exact rfl|exact hmb;exact s0.dom _ _ hmb;exact rfl)|((with_reducible apply (RS.callEx (g0:=197)));(iterate 3 exact rfl);intro B1 hB1;refine ⟨_,ints_ex (Nat.le_trans hlo hB1.le) (ha.up (Absb.kx hB1)) (hb.up (Absb.kx hB1)) hs (by simp [ptrC];exact hB1.dom _ _ (hB1.up _ _ w.w.c)),?_⟩;rintro v H1 π1 ⟨b3,rfl,he3,o3⟩ sp1 hle1;skip)|((with_reducible first|apply RS.nilCheck|apply RS.move|apply RS.assign|apply RS.fieldAddr);iterate 3 exact rfl)|((with_reducible apply RS.pickT);iterate 4 exact rfl)|((with_reducible apply RS.pickF);iterate 4 exact rfl)|((with_reducible apply RS.cmpT);(iterate 4 exact rfl);(simp only [cmpP];omega))|((with_reducible apply RS.cmpF);(iterate 4 exact rfl);(simp only [cmpN];omega))|((with_reducible apply RS.cmpC);iterate 5 exact rfl)|((with_reducible apply RS.skip);iterate 2 exact rfl)|((with_reducible apply RS.nil);exact mixed;kernel_rfl)|(with_reducible first|apply W.seq|apply W.ret|apply W.skip|apply thenK_n|apply thenK_r)|((with_reducible apply W.reg);kernel_rfl)|((with_reducible apply W.condT);kernel_rfl;exact rfl)|((with_reducible apply W.condF);kernel_rfl;exact rfl))
  exact endsK_ret _ (.cons (.tmp rfl) .nil) fun B' a=>⟨_,rfl,he3.up (Absb.kx a),Nat.le_trans hB1.le (Nat.le_trans o3.1 a.le),fun i hi=>by rw [a.old i (Nat.lt_of_lt_of_le hi (Nat.le_trans hB1.le o3.1)),o3.2 i (Nat.lt_of_lt_of_le hi hB1.le),hB1.old i hi]⟩
 case h_1 =>
  rename_i l lb hta htb
  rw [hta] at hma hte
  rw [htb] at hmb
  have hel:h.m tb1=some ⟨⟨intC l⟩,71⟩:=hte
  split at hs
  ·cases hs
  rename_i hc
  have hl0:¬ l.size=0:=fun e=>hc (.inl e)
  have hop:eqB op (b1 43)=true:=by
   cases he:eqB op (b1 43) with
   | true=>rfl
   | false=>exact absurd (.inr he) hc
  obtain rfl:=eqB_iff.1 hop
  obtain ⟨y,hy,hs⟩:=bind_some' hs
  simp only [Option.some.injEq] at hs
  subst hs
  obtain ⟨lb',e2,hy⟩:=convS_iff hy
  obtain rfl:lb=lb':=by rw [htb] at e2;injection e2
  cases hh:a.hid
  all_goals
   rw [hh] at hma
   rcases hy with ⟨h2,rfl⟩|⟨h2,rfl⟩
   all_goals repeat (first|((with_reducible apply RS.buildSlice);iterate 8 exact rfl)|((with_reducible apply RS.moveX);(iterate 3 exact rfl);(first|exact hC|exact hv1|exact hv2))|((with_reducible apply (RS.callR (g0:=126) true [] none));(iterate 3 exact rfl);exact fun H hH=>conv_same_tf (ptrC q.cb) (Sees.at hH hmb (s0.dom _ _ hmb)) h2;exact trivial)|((with_reducible apply (RS.callN2 (g0:=126) true []));(iterate 3 exact rfl);exact fun H hH hn hk=>(by have:=conv_new_tf (ptrC q.cb) (Sees.at hH hmb (s0.dom _ _ hmb)) h2;rw [hn,← hk] at this;exact this))|((with_reducible apply (RS.callP (g0:=118)));(iterate 3 exact rfl);exact fun H=>intOf_tf _ _ H;exact Nm_free (intC_free _))|((with_reducible apply (RS.callP (g0:=44)));(iterate 3 exact rfl);exact fun H=>size_int_tf _ _ H;exact Nm_free (by simp))|((with_reducible apply RS.load1B);(iterate 3 exact rfl);first|exact w.w.c;exact s0.dom _ _ w.w.c;exact rfl|exact w.w.p;exact s0.dom _ _ w.w.p;exact rfl|exact hma;exact s0.dom _ _ hma;exact rfl|exact hmb;exact s0.dom _ _ hmb;exact rfl)|((with_reducible apply RS.loadNB);(iterate 3 exact rfl);first|exact hma;exact s0.dom _ _ hma;exact Nat.le_of_ble_eq_true rfl;exact rfl|exact hel;exact s0.dom _ _ hel;exact Nat.le_of_ble_eq_true rfl;exact rfl)|((with_reducible first|apply RS.nilCheck|apply RS.move|apply RS.assign|apply RS.fieldAddr|apply RS.box);iterate 3 exact rfl)|((with_reducible apply RS.pickT);iterate 4 exact rfl)|((with_reducible apply RS.pickF);iterate 4 exact rfl)|((with_reducible apply RS.cmpF);(iterate 4 exact rfl);(simp only [cmpN];omega))|((with_reducible apply RS.cmpC);iterate 5 exact rfl)|((with_reducible apply RS.binStr);iterate 5 exact rfl)|((with_reducible apply RS.build);iterate 4 exact rfl)|((with_reducible apply RS.skip);iterate 2 exact rfl)|((with_reducible apply RS.nil);exact mixed;kernel_rfl)|(with_reducible first|apply W.seq|apply W.block|apply W.ret|apply W.skip|apply thenK_n|apply thenK_r|apply blockK_r)|((with_reducible apply W.reg);kernel_rfl)|((with_reducible apply W.condT);kernel_rfl;exact rfl)|((with_reducible apply W.condF);kernel_rfl;exact rfl))
   all_goals
    refine endsK_ret _ (.cons (.tmp rfl) .nil) fun B' a=>⟨_,rfl,node2 (tb:=tb1) (a.loc _ (Nat.le_of_ble_eq_true rfl)) (alo a hlo _ rfl) (TyE.up (Absb.kx a) hte) (a.loc _ (Nat.le_of_ble_eq_true rfl)) (alo a hlo _ rfl) (ha.up (Absb.kx a)) ?_,a.le,a.old⟩
    first|exact hb.up (Absb.kx a)|exact node1 (tb:=0) (a.loc _ (Nat.le_of_ble_eq_true rfl)) (alo a hlo _ rfl) trivial (a.loc _ (Nat.le_of_ble_eq_true rfl)) (alo a hlo _ rfl) (hb.up (Absb.kx a))
theorem deref_ex {e d:NodeS} {p1 pos:Nat} (w:ChkF h q st) (hf:st.fk=0) {lo:Nat} (hlo:lo≤h.n) (he:NodeAt h lo p1 e) (hs:derefS e pos=some d):EX Tryz.prog 175 [ptrC q.cb,ptrC p1,.int .i64 pos] h (PureQ lo h d):=by
 refine EX.intro (fn:=Tryz.f175) (c:=(Tryz.f175.body.getD .skip)) Tryz.func175 (by kernel_rfl) Tryz.ntmps175 (by kernel_rfl) fun π s0=>?_
 conv=>arg 2;whnf
 obtain ⟨tb1,tx1,nu1,re1,A1,n1,c1,hma,hte⟩:=he.cells
 unfold derefS at hs
 split at hs
 case h_2=>cases hs
 rename_i l hty
 rw [hty] at hma hte
 have hel:h.m tb1=some ⟨⟨intC l⟩,71⟩:=hte
 split at hs
 ·cases hs
 rename_i hl0
 simp only [Option.some.injEq] at hs
 subst hs
 repeat (first|((with_reducible apply RS.buildSlice);iterate 8 exact rfl)|((with_reducible apply (RS.callA (g0:=21)));(iterate 3 exact rfl);exact fun B' hB'=>cok_tf (w.w.old s0.dom ⟨hB'.le,hB'.old⟩) (decide_eq_true hf))|((with_reducible apply (RS.callP (g0:=44)));(iterate 3 exact rfl);exact fun H=>size_int_tf _ _ H;exact Nm_free (by simp))|((with_reducible apply RS.load1B);(iterate 3 exact rfl);first|exact w.w.c;exact s0.dom _ _ w.w.c;exact rfl|exact w.w.p;exact s0.dom _ _ w.w.p;exact rfl|exact hma;exact s0.dom _ _ hma;exact rfl)|((with_reducible apply RS.loadNB);(iterate 3 exact rfl);exact hel;exact s0.dom _ _ hel;exact Nat.le_of_ble_eq_true rfl;exact rfl)|((with_reducible first|apply RS.nilCheck|apply RS.move|apply RS.assign|apply RS.not|apply RS.fieldAddr|apply RS.box);iterate 3 exact rfl)|((with_reducible apply RS.pickF);iterate 4 exact rfl)|((with_reducible apply RS.cmpF);(iterate 4 exact rfl);(simp only [cmpN];omega))|((with_reducible apply RS.cmpC);iterate 5 exact rfl)|((with_reducible apply RS.build);iterate 4 exact rfl)|((with_reducible apply RS.nil);exact mixed;kernel_rfl)|(with_reducible first|apply W.seq|apply W.ret|apply W.skip|apply thenK_n)|((with_reducible apply W.reg);kernel_rfl)|((with_reducible apply W.condF);kernel_rfl;exact rfl))
 exact endsK_ret _ (.cons (.tmp rfl) .nil) fun B' a=>⟨_,rfl,node1 (tb:=0) (a.loc _ (Nat.le_of_ble_eq_true rfl)) (alo a hlo _ rfl) trivial (a.loc _ (Nat.le_of_ble_eq_true rfl)) (alo a hlo _ rfl) (he.up (Absb.kx a)),a.le,a.old⟩
theorem place_tf {e:NodeS} {p1:Nat} {lo:Nat} (he:NodeAt h lo p1 e) {b:Bool} (hb:placeS e=b):TF Tryz.prog 154 ⟨[ptrC p1]⟩ h (.bool b) h:=by
 refine TF.exact (fn:=Tryz.f154) (c:=(Tryz.f154.body.getD .skip)) Tryz.func154 (by kernel_rfl) Tryz.ntmps154 (by kernel_rfl) (fun s0=>old0 s0 (by simp)) fun π s0=>?_
 conv=>arg 2;whnf
 obtain ⟨tb1,tx1,nu1,re1,A1,n1,c1,hma,hte⟩:=he.cells
 subst hb
 unfold placeS
 by_cases h2:e.op=2
 ·rw [h2] at hma ⊢
  repeat (first|((with_reducible apply RS.load1B);(iterate 3 exact rfl);exact hma;exact s0.dom _ _ hma;exact rfl)|((with_reducible first|apply RS.nilCheck|apply RS.move|apply RS.assign|apply RS.fieldAddr);iterate 3 exact rfl)|((with_reducible apply RS.pickT);iterate 4 exact rfl)|((with_reducible apply RS.cmpT);(iterate 4 exact rfl);(simp only [cmpP];omega))|((with_reducible apply RS.skip);iterate 2 exact rfl)|((with_reducible apply RS.nil);exact mixed;kernel_rfl)|(with_reducible first|apply W.seq|apply W.ret|apply thenK_n)|((with_reducible apply W.reg);kernel_rfl))
  exact endsK_ret _ (.cons (.tmp rfl) .nil) fun B' a=>⟨rfl,a.up⟩
 by_cases h3:e.op=3
 ·rw [h3] at hma ⊢
  repeat (first|((with_reducible apply RS.load1B);(iterate 3 exact rfl);exact hma;exact s0.dom _ _ hma;exact rfl)|((with_reducible first|apply RS.nilCheck|apply RS.move|apply RS.assign|apply RS.fieldAddr);iterate 3 exact rfl)|((with_reducible apply RS.pickT);iterate 4 exact rfl)|((with_reducible apply RS.pickF);iterate 4 exact rfl)|((with_reducible apply RS.cmpT);(iterate 4 exact rfl);(simp only [cmpP];omega))|((with_reducible apply RS.cmpF);(iterate 4 exact rfl);(simp only [cmpN];omega))|((with_reducible apply RS.skip);iterate 2 exact rfl)|((with_reducible apply RS.nil);exact mixed;kernel_rfl)|(with_reducible first|apply W.seq|apply W.ret|apply thenK_n)|((with_reducible apply W.reg);kernel_rfl))
  exact endsK_ret _ (.cons (.tmp rfl) .nil) fun B' a=>⟨rfl,a.up⟩
 by_cases h5:e.op=5
 ·rw [h5] at hma ⊢
  repeat (first|((with_reducible apply RS.load1B);(iterate 3 exact rfl);exact hma;exact s0.dom _ _ hma;exact rfl)|((with_reducible first|apply RS.nilCheck|apply RS.move|apply RS.assign|apply RS.fieldAddr);iterate 3 exact rfl)|((with_reducible apply RS.pickT);iterate 4 exact rfl)|((with_reducible apply RS.pickF);iterate 4 exact rfl)|((with_reducible apply RS.cmpT);(iterate 4 exact rfl);(simp only [cmpP];omega))|((with_reducible apply RS.cmpF);(iterate 4 exact rfl);(simp only [cmpN];omega))|((with_reducible apply RS.skip);iterate 2 exact rfl)|((with_reducible apply RS.nil);exact mixed;kernel_rfl)|(with_reducible first|apply W.seq|apply W.ret|apply thenK_n)|((with_reducible apply W.reg);kernel_rfl))
  exact endsK_ret _ (.cons (.tmp rfl) .nil) fun B' a=>⟨rfl,a.up⟩
 by_cases h6:e.op=6
 ·rw [h6] at hma ⊢
  repeat (first|((with_reducible apply RS.load1B);(iterate 3 exact rfl);exact hma;exact s0.dom _ _ hma;exact rfl)|((with_reducible first|apply RS.nilCheck|apply RS.move|apply RS.assign|apply RS.fieldAddr);iterate 3 exact rfl)|((with_reducible apply RS.pickF);iterate 4 exact rfl)|((with_reducible apply RS.cmpT);(iterate 4 exact rfl);(simp only [cmpP];omega))|((with_reducible apply RS.cmpF);(iterate 4 exact rfl);(simp only [cmpN];omega))|((with_reducible apply RS.nil);exact mixed;kernel_rfl)|(with_reducible first|apply W.seq|apply W.ret|apply thenK_n)|((with_reducible apply W.reg);kernel_rfl))
  exact endsK_ret _ (.cons (.tmp rfl) .nil) fun B' a=>⟨rfl,a.up⟩
 ·repeat (first|((with_reducible apply RS.load1B);(iterate 3 exact rfl);exact hma;exact s0.dom _ _ hma;exact rfl)|((with_reducible first|apply RS.nilCheck|apply RS.move|apply RS.assign|apply RS.fieldAddr);iterate 3 exact rfl)|((with_reducible apply RS.pickF);iterate 4 exact rfl)|((with_reducible apply RS.cmpF);(iterate 4 exact rfl);(simp only [cmpN];omega))|((with_reducible apply RS.nil);exact mixed;kernel_rfl)|(with_reducible first|apply W.seq|apply W.ret|apply thenK_n)|((with_reducible apply W.reg);kernel_rfl))
  exact endsK_ret _ (.cons (.tmp rfl) .nil) fun B' a=>⟨by show Value.bool _=Value.bool _;simp [h2,h3,h5,h6],a.up⟩
end
theorem ptr_tf (l:LfS) (h:Hp):TF Tryz.prog 70 ⟨[.agg ⟨intC l⟩]⟩ h (.agg ⟨tyC (.ptr l) h.n⟩) (h.push ⟨⟨intC l⟩,71⟩):=by
 refine EX.one ?_ (by simp [intC]) (by simp [tyC,ptrC])
 refine EX.intro (fn:=Tryz.f70) (c:=(Tryz.f70.body.getD .skip)) Tryz.func70 (by kernel_rfl) Tryz.ntmps70 (by kernel_rfl) fun π s0=>?_
 conv=>arg 2;whnf
 repeat (first|((with_reducible apply RS.store);(iterate 5 exact rfl);exact Nat.le_of_ble_eq_true rfl;iterate 3 exact rfl)|((with_reducible apply RS.alloc);iterate 2 exact rfl)|((with_reducible apply RS.box);iterate 3 exact rfl)|((with_reducible apply RS.build);iterate 4 exact rfl)|((with_reducible apply RS.nil);exact mixed;kernel_rfl)|(with_reducible first|apply W.seq|apply W.ret|apply thenK_n)|((with_reducible apply W.reg);kernel_rfl))
 exact endsK_ret _ (.cons (.cellN rfl rfl rfl (Nat.le_of_ble_eq_true rfl)) .nil) fun B' a=>⟨_,a.lo 0 (Nat.le_of_ble_eq_true rfl),fun τ h1 h2=>⟨by show Value.agg ⟨tyC (.ptr l) (π 0)⟩=_;simp [tyC,ptrC,h2],by rw [a.loc 0 (Nat.le_of_ble_eq_true rfl)];show some (⟨⟨intC l⟩,71⟩:Blk)=_;simp [subB,intC]⟩,a.le,a.old⟩
section
variable {h:Hp} {q:Pl} {st:CS}
theorem memory_tf {e:NodeS} {p1:Nat} {lo:Nat} (he:NodeAt h lo p1 e) (h6:¬ e.op=6) (h3:¬ e.op=3) (C:Value):TF Tryz.prog 185 ⟨[C,ptrC p1]⟩ h (.tuple ⟨[]⟩) h:=by
 refine TF.exact (fn:=Tryz.f185) (c:=(Tryz.f185.body.getD .skip)) Tryz.func185 (by kernel_rfl) Tryz.ntmps185 (by kernel_rfl) (fun s0=>old0 s0 (by simp)) fun π s0=>?_
 conv=>arg 2;whnf
 obtain ⟨tb1,tx1,nu1,re1,A1,n1,c1,hma,hte⟩:=he.cells
 repeat (first|((with_reducible apply RS.load1B);(iterate 3 exact rfl);exact hma;exact s0.dom _ _ hma;exact rfl)|((with_reducible apply (W.rounds 1)))|((with_reducible apply WR.step))|((with_reducible apply roundR_e))|((with_reducible first|apply RS.nilCheck|apply RS.move|apply RS.fieldAddr);iterate 3 exact rfl)|((with_reducible apply RS.cmpF);(iterate 4 exact rfl);(simp only [cmpN];omega))|((with_reducible apply RS.nil);exact mixed;kernel_rfl)|(with_reducible first|apply W.seq|apply W.block|apply W.exit|apply W.skip|apply thenK_n|apply thenK_e)|((with_reducible apply W.reg);kernel_rfl)|((with_reducible apply W.condF);kernel_rfl;exact rfl)|((with_reducible apply blockK_hit);exact rfl))
 exact endsK_normal _ .nil fun B' a=>⟨rfl,a.up⟩
theorem loaded_ex {e d:NodeS} {p1:Nat} {C:Value} (hC:bnd h.n C) {lo:Nat} (hlo:lo≤h.n) (he:NodeAt h lo p1 e) (hs:loadedS e=some d):EX Tryz.prog 155 [C,ptrC p1] h (PureQ lo h d):=by
 refine EX.intro (fn:=Tryz.f155) (c:=(Tryz.f155.body.getD .skip)) Tryz.func155 (by kernel_rfl) Tryz.ntmps155 (by kernel_rfl) fun π s0=>?_
 conv=>arg 2;whnf
 obtain ⟨tb1,tx1,nu1,re1,A1,n1,c1,hma,hte⟩:=he.cells
 have hpl:p1 < h.n:=s0.dom _ _ hma
 have hv1:bnd h.n (ptrC p1):=by simp [ptrC];exact s0.dom _ _ hma
 unfold loadedS at hs
 split at hs
 ·rename_i l m hty
  rw [hty] at hma hte
  have hel:h.m tb1=some ⟨⟨intC l⟩,71⟩:=hte
  split at hs
  ·cases hs
  rename_i ho
  have h6:¬ e.op=6:=fun e=>ho (.inl e)
  have h3:¬ e.op=3:=fun e=>ho (.inr e)
  simp only [Option.some.injEq] at hs
  subst hs
  repeat (first|((with_reducible apply RS.moveX);(iterate 3 exact rfl);(first|exact hC|exact hv1))|((with_reducible apply RS.nilCheckX);(iterate 3 exact rfl);(first|exact hpl))|((with_reducible apply RS.fieldAddrX);(iterate 3 exact rfl);(first|exact hpl))|((with_reducible apply RS.load1BX);(iterate 3 exact rfl);exact hma;exact s0.dom _ _ hma;exact rfl;(first|exact bnd_int _ _ _|exact bnd_bool _ _|exact bnd_string _ _))|((with_reducible apply (RS.buildSliceX (cs:=[ptrC p1])));(iterate 8 exact rfl);exact (fun u hu=>by rw [List.mem_singleton] at hu;rw [hu];exact hv1))|((with_reducible apply RS.load1B);(iterate 3 exact rfl);exact hma;exact s0.dom _ _ hma;exact rfl)|((with_reducible apply RS.loadNB);(iterate 3 exact rfl);exact hel;exact s0.dom _ _ hel;exact Nat.le_of_ble_eq_true rfl;exact rfl)|((with_reducible apply (RS.callA (g0:=185)));(iterate 3 exact rfl);exact fun B' hB'=>memory_tf (he.up (Absb.kx hB')) h6 h3 _)|((with_reducible apply (RS.callN1 (g0:=70) true []));(iterate 3 exact rfl);exact fun H hH hn=>(by have:=ptr_tf l H;rw [hn] at this;exact this))|((with_reducible first|apply RS.nilCheck|apply RS.assign|apply RS.box);iterate 3 exact rfl)|((with_reducible apply RS.cmpC);iterate 5 exact rfl)|((with_reducible apply RS.build);iterate 4 exact rfl)|((with_reducible apply RS.nil);exact mixed;kernel_rfl)|(with_reducible first|apply W.seq|apply W.ret|apply thenK_n|apply thenK_r)|((with_reducible apply W.reg);kernel_rfl)|((with_reducible apply W.condT);kernel_rfl;exact rfl))
  exact endsK_ret _ (.cons (.tmp rfl) .nil) fun B' a=>⟨_,rfl,node1 (tb:=π 0) (a.loc _ (Nat.le_of_ble_eq_true rfl)) (alo a hlo _ rfl) (a.loc 0 (Nat.le_of_ble_eq_true rfl)) (a.loc _ (Nat.le_of_ble_eq_true rfl)) (alo a hlo _ rfl) (he.up (Absb.kx a)),a.le,a.old⟩
 ·rename_i l hty
  rw [hty] at hma
  simp only [Option.some.injEq] at hs
  subst hs
  obtain ⟨sz,sg,sc⟩:=l
  cases hh:e.hid
  all_goals rw [hh] at hma
  ·rw [show (sc || false)=sc by cases sc<;>rfl]
   repeat (first|((with_reducible apply RS.moveX);(iterate 3 exact rfl);(first|exact hC|exact hv1))|((with_reducible apply RS.nilCheckX);(iterate 3 exact rfl);(first|exact hpl))|((with_reducible apply RS.fieldAddrX);(iterate 3 exact rfl);(first|exact hpl))|((with_reducible apply RS.load1BX);(iterate 3 exact rfl);exact hma;exact s0.dom _ _ hma;exact rfl;(first|exact bnd_int _ _ _|exact bnd_bool _ _|exact bnd_string _ _))|((with_reducible apply (RS.buildSliceX (cs:=[ptrC p1])));(iterate 8 exact rfl);exact (fun u hu=>by rw [List.mem_singleton] at hu;rw [hu];exact hv1))|((with_reducible apply RS.loadNB);(iterate 3 exact rfl);exact hma;exact s0.dom _ _ hma;exact Nat.le_of_ble_eq_true rfl;exact rfl)|((with_reducible first|apply RS.move|apply RS.assign|apply RS.box);iterate 3 exact rfl)|((with_reducible apply RS.pickF);iterate 4 exact rfl)|((with_reducible apply RS.cmpF);(iterate 4 exact rfl);(simp only [cmpN];omega))|((with_reducible apply RS.build);iterate 4 exact rfl)|((with_reducible apply RS.skip);iterate 2 exact rfl)|((with_reducible apply RS.nil);exact mixed;kernel_rfl)|(with_reducible first|apply W.seq|apply W.ret|apply W.skip|apply thenK_n)|((with_reducible apply W.reg);kernel_rfl)|((with_reducible apply W.condF);kernel_rfl;exact rfl))
   exact endsK_ret _ (.cons (.tmp rfl) .nil) fun B' a=>⟨_,rfl,node1 (tb:=0) (a.loc _ (Nat.le_of_ble_eq_true rfl)) (alo a hlo _ rfl) trivial (a.loc _ (Nat.le_of_ble_eq_true rfl)) (alo a hlo _ rfl) (he.up (Absb.kx a)),a.le,a.old⟩
  ·rw [show (sc || true)=true by cases sc<;>rfl]
   repeat (first|((with_reducible apply RS.moveX);(iterate 3 exact rfl);(first|exact hC|exact hv1))|((with_reducible apply RS.nilCheckX);(iterate 3 exact rfl);(first|exact hpl))|((with_reducible apply RS.fieldAddrX);(iterate 3 exact rfl);(first|exact hpl))|((with_reducible apply RS.load1BX);(iterate 3 exact rfl);exact hma;exact s0.dom _ _ hma;exact rfl;(first|exact bnd_int _ _ _|exact bnd_bool _ _|exact bnd_string _ _))|((with_reducible apply (RS.buildSliceX (cs:=[ptrC p1])));(iterate 8 exact rfl);exact (fun u hu=>by rw [List.mem_singleton] at hu;rw [hu];exact hv1))|((with_reducible apply RS.loadNB);(iterate 3 exact rfl);exact hma;exact s0.dom _ _ hma;exact Nat.le_of_ble_eq_true rfl;exact rfl)|((with_reducible first|apply RS.nilCheck|apply RS.move|apply RS.assign|apply RS.fieldAddr|apply RS.box);iterate 3 exact rfl)|((with_reducible apply RS.pickT);iterate 4 exact rfl)|((with_reducible apply RS.cmpF);(iterate 4 exact rfl);(simp only [cmpN];omega))|((with_reducible apply RS.cmpC);iterate 5 exact rfl)|((with_reducible apply RS.load1);iterate 6 exact rfl)|((with_reducible apply RS.store);(iterate 5 exact rfl);exact Nat.le_of_ble_eq_true rfl;iterate 3 exact rfl)|((with_reducible apply RS.build);iterate 4 exact rfl)|((with_reducible apply RS.nil);exact mixed;kernel_rfl)|(with_reducible first|apply W.seq|apply W.ret|apply W.skip|apply thenK_n)|((with_reducible apply W.reg);kernel_rfl)|((with_reducible apply W.condT);kernel_rfl;exact rfl)|((with_reducible apply W.condF);kernel_rfl;exact rfl))
   exact endsK_ret _ (.cons (.tmp rfl) .nil) fun B' a=>⟨_,rfl,node1 (tb:=0) (a.loc _ (Nat.le_of_ble_eq_true rfl)) (alo a hlo _ rfl) trivial (a.loc _ (Nat.le_of_ble_eq_true rfl)) (alo a hlo _ rfl) (he.up (Absb.kx a)),a.le,a.old⟩
 ·cases hs
end
end Go.Proofs.YtgpigfcagppohaaGreatDoor
