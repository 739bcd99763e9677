/-
  What the functions that the law reaches compute,told by plain data;it holds of programs that pass the check of right form and are light.
-/
import Derived.Test.YtgpigfcagppohaaGreatDoorR5
import Derived.Test.YtgpigfcagppohaaGreatDoorR7
import Derived.Test.YtgpigfcagppohaaGreatDoorS1
import Derived.Test.YtgpigfcagppohaaGreatDoorS2
set_option linter.unusedVariables false
set_option linter.unusedSimpArgs false
namespace Go.Proofs.YtgpigfcagppohaaGreatDoor
open Go.AH
attribute [local irreducible] W RS
theorem intC_free (l:LfS):bnd 0 (.agg ⟨intC l⟩):=by simp [intC]
theorem intOf_tf (n:Nat) (b:Bool) (h:Hp):TF Tryz.prog 118 ⟨[.int .i64 n,.bool b]⟩ h (.agg ⟨intC ⟨n,b,false⟩⟩) h:=by
 refine TF.still (fn:=Tryz.f118) (c:=(Tryz.f118.body.getD .skip)) Tryz.func118 (by kernel_rfl) Tryz.ntmps118 (by kernel_rfl) (by simp [intC]) ?_
 conv=>arg 2;whnf
 repeat (first|refine Y11 ?_|refine Y2 ?_|refine Y9 ?_|refine Ya ?_|refine Y0 ?_|refine Yq ?_|refine Y1 ?_)
 exact endsK_ret _ (.cons (.cellN rfl rfl rfl (Nat.le_of_ble_eq_true rfl)) .nil) ⟨rfl,rfl⟩
theorem open_tf (l:LfS) (h:Hp):TF Tryz.prog 199 ⟨[.agg ⟨intC l⟩]⟩ h (.agg ⟨intC ⟨l.size,l.sg,false⟩⟩) h:=by
 refine TF.still (fn:=Tryz.f199) (c:=(Tryz.f199.body.getD .skip)) Tryz.func199 (by kernel_rfl) Tryz.ntmps199 (by kernel_rfl) (by simp [intC]) ?_
 conv=>arg 2;whnf
 repeat (first|refine Yo ?_|((with_reducible first|apply RS.fieldAddr|apply RS.box);iterate 3 exact rfl)|refine Yh ?_|refine Yg ?_|refine Y2 ?_|refine Y9 ?_|refine Y0 ?_|refine Yq ?_|refine Y1 ?_|refine Y5 ?_)
 exact endsK_ret _ (.cons (.cellN rfl rfl rfl (Nat.le_of_ble_eq_true rfl)) .nil) ⟨rfl,rfl⟩
theorem promote_tf (l:LfS) (h:Hp):TF Tryz.prog 125 ⟨[.agg ⟨intC l⟩]⟩ h (.agg ⟨intC (promoteS l)⟩) h:=by
 refine TF.still (fn:=Tryz.f125) (c:=(Tryz.f125.body.getD .skip)) Tryz.func125 (by kernel_rfl) Tryz.ntmps125 (by kernel_rfl) (by simp [intC]) ?_
 conv=>arg 2;whnf
 by_cases h4:l.size < 4
 ·have e:promoteS l=⟨4,true,l.sec⟩:=if_pos h4
  rw [e]
  repeat (first|refine Y26 ?_|refine Yd ?_|refine Y6 ?_|refine Yo ?_|refine Yh ?_|refine Yg ?_|refine Y2 ?_|refine Y9 ?_|refine Y0 ?_|refine Yq ?_|refine Y1 ?_|refine Y5 ?_)
  exact endsK_ret _ (.cons (.cellN rfl rfl rfl (Nat.le_of_ble_eq_true rfl)) .nil) ⟨rfl,rfl⟩
 ·have e:promoteS l=l:=if_neg h4
  rw [e]
  repeat (first|refine Y26 ?_|refine Yd ?_|refine Y4 ?_|refine Yo ?_|refine Yh ?_|refine Yg ?_|refine Y2 ?_|refine Y9 ?_|refine Y0 ?_|refine Yv ?_|refine Y1 ?_|refine Y3 ?_)
  exact endsK_ret _ (.cons (.cellN rfl rfl rfl (Nat.le_of_ble_eq_true rfl)) .nil) ⟨rfl,rfl⟩
theorem common_tf (a b:LfS) (h:Hp):TF Tryz.prog 200 ⟨[.agg ⟨intC a⟩,.agg ⟨intC b⟩]⟩ h (.agg ⟨intC (commonS a b)⟩) h:=by
 refine TF.still (fn:=Tryz.f200) (c:=(Tryz.f200.body.getD .skip)) Tryz.func200 (by kernel_rfl) Tryz.ntmps200 (by kernel_rfl) (by simp [intC]) ?_
 conv=>arg 2;whnf
 obtain ⟨x,hx⟩:∃ x,promoteS a=x:=⟨_,rfl⟩
 obtain ⟨y,hy⟩:∃ y,promoteS b=y:=⟨_,rfl⟩
 have e:commonS a b={ commonR x y with sec:=a.sec || b.sec }:=by rw [← hx,← hy];rfl
 rw [e]
 have px:∀ H,TF Tryz.prog 125 ⟨[.agg ⟨intC a⟩]⟩ H (.agg ⟨intC x⟩) H:=fun H=>by rw [← hx];exact promote_tf a H
 have py:∀ H,TF Tryz.prog 125 ⟨[.agg ⟨intC b⟩]⟩ H (.agg ⟨intC y⟩) H:=fun H=>by rw [← hy];exact promote_tf b H
 clear hx hy e
 obtain ⟨sa,ga,ca⟩:=a
 obtain ⟨sx,gx,cx⟩:=x
 obtain ⟨sy,gy,cy⟩:=y
 dsimp only
 by_cases h1:sx < sy
 ·rw [show commonR ⟨sx,gx,cx⟩ ⟨sy,gy,cy⟩=⟨sy,gy,cy⟩ from if_pos (.inl h1)]
  cases ca
  all_goals repeat (first|refine Y22 ?_|refine Y26 ?_|refine Yd ?_|refine Yc ?_|refine Y6 ?_|refine Yh ?_|refine Yg ?_|refine Y2 ?_|refine Y9 ?_|refine Yk ?_|refine Y0 ?_|refine Yq ?_|refine Y1 ?_|refine Y5 ?_)
  all_goals exact endsK_ret _ (.cons (.cellN rfl rfl rfl (Nat.le_of_ble_eq_true rfl)) .nil) ⟨rfl,rfl⟩
 ·by_cases h2:sy=sx
  ·cases gy with
   | false =>
    rw [show commonR ⟨sx,gx,cx⟩ ⟨sy,false,cy⟩=⟨sy,false,cy⟩ from if_pos (.inr ⟨h2,rfl⟩)]
    cases ca
    all_goals repeat (first|refine Y22 ?_|refine Y6h ?_|refine Yd ?_|refine Yc ?_|refine Y6 ?_|refine Y4 ?_|refine Yh ?_|refine Yg ?_|refine Y2 ?_|refine Y9 ?_|refine Yk ?_|refine Y0 ?_|refine Yq ?_|refine Y1 ?_|refine Y5 ?_)
    all_goals exact endsK_ret _ (.cons (.cellN rfl rfl rfl (Nat.le_of_ble_eq_true rfl)) .nil) ⟨rfl,rfl⟩
   | true =>
    rw [show commonR ⟨sx,gx,cx⟩ ⟨sy,true,cy⟩=⟨sx,gx,cx⟩ from if_neg (by rintro (h|⟨_,h⟩);exact h1 h;cases h)]
    cases ca
    all_goals repeat (first|refine Y22 ?_|refine Y6h ?_|refine Yd ?_|refine Yc ?_|refine Y6 ?_|refine Y4 ?_|refine Yh ?_|refine Yg ?_|refine Y2 ?_|refine Y9 ?_|refine Yk ?_|refine Y0 ?_|refine Yv ?_|refine Y1 ?_|refine Y3 ?_)
    all_goals exact endsK_ret _ (.cons (.cellN rfl rfl rfl (Nat.le_of_ble_eq_true rfl)) .nil) ⟨rfl,rfl⟩
  ·rw [show commonR ⟨sx,gx,cx⟩ ⟨sy,gy,cy⟩=⟨sx,gx,cx⟩ from if_neg (by rintro (h|⟨h,_⟩);exact h1 h;exact h2 h)]
   cases ca
   all_goals repeat (first|refine Y22 ?_|refine Y26 ?_|refine Yd ?_|refine Yc ?_|refine Y4 ?_|refine Yh ?_|refine Yg ?_|refine Y2 ?_|refine Y9 ?_|refine Yk ?_|refine Y0 ?_|refine Yv ?_|refine Y1 ?_|refine Y3 ?_)
   all_goals exact endsK_ret _ (.cons (.cellN rfl rfl rfl (Nat.le_of_ble_eq_true rfl)) .nil) ⟨rfl,rfl⟩
theorem same_tf (a b:LfS) (h:Hp):TF Tryz.prog 122 ⟨[.agg ⟨intC a⟩,.agg ⟨intC b⟩]⟩ h (.bool (sameL a b)) h:=by
 refine TF.still (fn:=Tryz.f122) (c:=(Tryz.f122.body.getD .skip)) Tryz.func122 (by kernel_rfl) Tryz.ntmps122 (by kernel_rfl) (by simp) ?_
 conv=>arg 2;whnf
 obtain ⟨sa,ga,ca⟩:=a
 obtain ⟨sb,gb,cb⟩:=b
 by_cases h1:sa=sb
 ·cases ga<;>cases gb<;>cases ca<;>cases cb
  all_goals repeat (first|((with_reducible apply RS.boolEql);iterate 4 exact rfl)|refine Y4j ?_|refine Yd ?_|refine Yc ?_|refine Y6 ?_|refine Yo ?_|refine Y2b ?_|refine Yh ?_|refine Yk ?_|refine Y0 ?_|refine Ys ?_|refine Y1 ?_|refine Y5 ?_|refine Y3 ?_)
  all_goals exact endsK_ret _ (.cons (.tmp rfl) .nil) ⟨rfl,by show Value.bool _=Value.bool _;simp [sameL,h1]⟩
 ·repeat (first|refine Y4j ?_|refine Yc ?_|refine Y4 ?_|refine Yo ?_|refine Y2b ?_|refine Yh ?_|refine Yk ?_|refine Y0 ?_|refine Ys ?_|refine Y1 ?_|refine Y5 ?_|refine Y3 ?_)
  exact endsK_ret _ (.cons (.tmp rfl) .nil) ⟨rfl,by show Value.bool _=Value.bool _;simp [sameL,h1]⟩
theorem wrapN {n:Nat} (h:n≤9223372036854775807):IntKind.i64.wrap (n:Int)=(n:Int):=wrap64_fit (by omega) (by omega)
theorem size_int_tf (l:LfS) (T:Value) (h:Hp):TF Tryz.prog 44 ⟨[T,.agg ⟨intC l⟩]⟩ h (.int .i64 l.size) h:=by
 refine TF.still (fn:=Tryz.f44) (c:=(Tryz.f44.body.getD .skip)) Tryz.func44 (by kernel_rfl) Tryz.ntmps44 (by kernel_rfl) (by simp) ?_
 conv=>arg 2;whnf
 repeat (first|((with_reducible first|apply RS.assign|apply RS.fieldAddr|apply RS.box);iterate 3 exact rfl)|refine Yo ?_|refine Yh ?_|refine Y0 ?_|refine Yz ?_|refine Y1 ?_|refine Y5 ?_)
 exact endsK_ret _ (.cons (.tmp rfl) .nil) ⟨rfl,rfl⟩
theorem up8_tf (n:Nat) (hn:n≤1000000) (h:Hp):TF Tryz.prog 38 ⟨[.int .i64 n,.int .i64 8]⟩ h (.int .i64 (upS8 n:Nat)) h:=by
 refine TF.still (fn:=Tryz.f38) (c:=(Tryz.f38.body.getD .skip)) Tryz.func38 (by kernel_rfl) Tryz.ntmps38 (by kernel_rfl) (by simp) ?_
 conv=>arg 2;whnf
 repeat (first|((with_reducible apply (RS.binFit (n:=((n+7:Nat):Int))));(iterate 4 exact rfl);exact congrArg some (show (n:Int)+8 - 1=((n+7:Nat):Int) by omega);omega)|((with_reducible apply (RS.quoN (a:=n+7) (b:=8)));(iterate 4 exact rfl);decide;exact wrapN (by omega))|((with_reducible apply (RS.mulN (a:=(n+7) / 8) (b:=8)));(iterate 4 exact rfl);exact wrapN (by omega))|refine Y7 ?_|refine Y1q ?_|refine Y0 ?_|refine Yq ?_|refine Y1 ?_)
 exact endsK_ret _ (.cons (.tmp rfl) .nil) ⟨rfl,rfl⟩
theorem size_arr_tf (l:LfS) (n b:Nat) (T:Value) {h:Hp} (hn:0 < n∧n≤4096) (hl:l.size≤8) (ht:TyE h (.arr l n) b):TF Tryz.prog 44 ⟨[T,.agg ⟨tyC (.arr l n) b⟩]⟩ h (.int .i64 (n * l.size:Nat)) h:=by
 refine TF.exact (fn:=Tryz.f44) (c:=(Tryz.f44.body.getD .skip)) Tryz.func44 (by kernel_rfl) Tryz.ntmps44 (by kernel_rfl) (fun s0=>⟨Nat.le_refl _,by simp,fun i b hb=>⟨s0.dom i b hb,s0.bd i b hb⟩⟩) fun π s0=>?_
 conv=>arg 2;whnf
 have ht:h.m b=some ⟨⟨intC l⟩,71⟩:=ht
 have hq:l.size≤1099511627776 / n:=Nat.le_trans hl ((Nat.le_div_iff_mul_le hn.1).2 (by omega))
 repeat (first|((with_reducible apply (RS.callA (g0:=44)));(iterate 3 exact rfl);exact fun B' hB'=>size_int_tf l T B')|((with_reducible apply RS.loadNB);(iterate 3 exact rfl);exact ht;exact s0.dom _ _ ht;exact Nat.le_of_ble_eq_true rfl;exact rfl)|((with_reducible apply (RS.quoN (a:=1099511627776) (b:=n)));(iterate 4 exact rfl);exact hn.1;exact wrapN (Nat.le_trans (Nat.div_le_self _ _) (by decide)))|((with_reducible apply (RS.mulN (a:=n) (b:=l.size)));(iterate 4 exact rfl);exact wrapN (Nat.le_trans (Nat.mul_le_mul hn.2 hl) (by decide)))|refine Yj ?_|refine Yd ?_|refine Y6 ?_|refine Y4 ?_|refine Yo ?_|refine Yh ?_|refine Y0 ?_|refine Ys ?_|refine Y1 ?_|refine Y5 ?_|refine Y3 ?_)
 exact endsK_ret _ (.cons (.tmp rfl) .nil) fun B' a=>⟨rfl,a.up⟩
theorem size_tf {t:TyS} {n:Nat} (hs:sizeS t=some n) (T:Value) {b:Nat} {h:Hp} (ht:TyE h t b) (hp:∀ l,t≠.ptr l):TF Tryz.prog 44 ⟨[T,.agg ⟨tyC t b⟩]⟩ h (.int .i64 n) h:=by
 cases t with
 | void=>cases hs
 | ptr l=>exact absurd rfl (hp l)
 | int l =>
  have hs:(if l.size=0 then none else some l.size)=some n:=hs
  split at hs
  ·cases hs
  ·injection hs with hs;subst hs;exact size_int_tf l T h
 | arr l m =>
  have hs:(if l.size=0∨8 < l.size∨m=0∨4096 < m then none else some (m * l.size))=some n:=hs
  split at hs
  ·cases hs
  ·rename_i hc
   injection hs with hs;subst hs;exact size_arr_tf l m b T (by omega) (by omega) ht
attribute [local irreducible] WR
section
variable {q:Pl} {h:Hp} {F Fs:Value} {mn:Int} {st:CS}
theorem old0 {P:Program} {h:Hp} (s:Sat P h) {v:Value} (hv:bnd h.n v):h.n≤h.n∧bnd h.n v∧∀ i b,h.m i=some b→i < h.n∧∀ u∈b.cells,bnd h.n u:=⟨Nat.le_refl _,hv,fun i b hb=>⟨s.dom i b hb,s.bd i b hb⟩⟩
theorem cok_tf (w:ChkW h q F Fs mn st) {b:Bool} (hb:decide (st.fk=0)=b):TF Tryz.prog 21 ⟨[ptrC q.cb]⟩ h (.bool b) h:=by
 refine TF.exact (fn:=Tryz.f21) (c:=(Tryz.f21.body.getD .skip)) Tryz.func21 (by kernel_rfl) Tryz.ntmps21 (by kernel_rfl) (fun s0=>old0 s0 (by simp)) fun π s0=>?_
 conv=>arg 2;whnf
 by_cases hf:st.fk=0
 ·obtain rfl:b=true:=by rw [← hb,decide_eq_true hf]
  repeat (first|refine Y3q ?_|refine Y8 ?_|refine Y6 ?_|refine Y0 ?_|refine Yq ?_|refine Y1 ?_)
  exact endsK_ret _ (.cons (.tmp rfl) .nil) fun B' a=>⟨rfl,a.up⟩
 ·obtain rfl:b=false:=by rw [← hb,decide_eq_false hf]
  repeat (first|refine Y3q ?_|refine Y8 ?_|refine Y4 ?_|refine Y0 ?_|refine Yq ?_|refine Y1 ?_)
  exact endsK_ret _ (.cons (.tmp rfl) .nil) fun B' a=>⟨rfl,a.up⟩
theorem ck_set (w:ChkW h q F Fs mn st) {st':CS} (hl:st'.nm=st.nm) (s:Sat Tryz.prog h) {v:Value} (hv:bnd h.n v):h.n≤(h.set q.cb (ckB q F st')).n∧bnd (h.set q.cb (ckB q F st')).n v∧∀ i b,(h.set q.cb (ckB q F st')).m i=some b→i < (h.set q.cb (ckB q F st')).n∧∀ u∈b.cells,bnd (h.set q.cb (ckB q F st')).n u:=by
 refine ⟨Nat.le_refl _,hv,fun i b hb=>?_⟩
 have hb:(if i=q.cb then some (ckB q F st') else h.m i)=some b:=hb
 by_cases e:i=q.cb
 ·rw [if_pos e] at hb
  injection hb with hb
  subst hb;subst e
  refine ⟨s.dom _ _ w.c,fun u hu=>?_⟩
  have h0:=s.bd _ _ w.c
  have hu:u∈ckC q F st':=by simpa [ckB] using hu
  simp only [ckC,List.mem_cons,List.not_mem_nil,or_false] at hu
  rcases hu with rfl|rfl|rfl|rfl|rfl|rfl|rfl|rfl|rfl
  ·show bnd h.n (.int _ _);simp
  ·show bnd h.n (.int _ _);simp
  ·exact h0 _ (by simp [ckB,ckC])
  ·exact h0 _ (by simp [ckB,ckC])
  ·exact h0 _ (by simp [ckB,ckC])
  ·rw [hl];exact h0 _ (by simp [ckB,ckC])
  all_goals (show bnd h.n (.int _ _);simp)
 ·rw [if_neg e] at hb
  exact ⟨s.dom _ _ hb,s.bd _ _ hb⟩
theorem ck_same (w:ChkW h q F Fs mn st) {i:Nat} {b:Blk} (hb:(h.set q.cb (ckB q F st)).m i=some b):h.m i=some b:=by
 have hb:(if i=q.cb then some (ckB q F st) else h.m i)=some b:=hb
 by_cases e:i=q.cb
 ·rw [if_pos e] at hb;rw [e,← hb];exact w.c
 ·rw [if_neg e] at hb;exact hb
theorem cfail_tf (w:ChkW h q F Fs mn st) (k p:Nat):TF Tryz.prog 33 ⟨[ptrC q.cb,.int .i64 k,.int .i64 p]⟩ h (.tuple ⟨[]⟩) (h.set q.cb (ckB q F (st.fail k p))):=by
 refine TF.exact (fn:=Tryz.f33) (c:=(Tryz.f33.body.getD .skip)) Tryz.func33 (by kernel_rfl) Tryz.ntmps33 (by kernel_rfl) (fun s0=>ck_set w (st.fail_nm k p).1 s0 (by simp)) fun π s0=>?_
 conv=>arg 2;whnf
 by_cases hf:st.fk=0
 ·have e:st.fail k p={ st with fk:=k,fa:=p }:=if_pos hf
  rw [e]
  repeat (first|((with_reducible apply (RS.callA (g0:=21)));(iterate 3 exact rfl);exact fun B' hB'=>cok_tf (w.old s0.dom ⟨hB'.le,hB'.old⟩) (decide_eq_true hf))|((with_reducible apply RS.storeB);(iterate 3 exact rfl);exact w.c;exact s0.dom _ _ w.c;exact w.cw;exact Nat.le_of_ble_eq_true rfl;iterate 3 exact rfl)|refine Yf ?_|refine Ya ?_|refine Y0 ?_|refine Y1x ?_|refine Y1 ?_|refine Y5 ?_)
  exact endsK_normal _ .nil fun B' a=>⟨rfl,a.up⟩
 ·have e:st.fail k p=st:=if_neg hf
  rw [e]
  repeat (first|((with_reducible apply (RS.callA (g0:=21)));(iterate 3 exact rfl);exact fun B' hB'=>cok_tf (w.old s0.dom ⟨hB'.le,hB'.old⟩) (decide_eq_false hf))|refine Y11 ?_|refine Y0 ?_|refine Y1d ?_|refine Y1 ?_|refine Y3 ?_)
  exact endsK_normal _ .nil fun B' a=>⟨rfl,fun i b hb=>a.up i b (ck_same w hb)⟩
theorem ChkW.set (w:ChkW h q F Fs mn st) {st':CS} (e1:st'.gl=st.gl) (e2:st'.nm=st.nm) (e3:st'.data=st.data) (hd:∀ i b,h.m i=some b→i < h.n):ChkW (h.set q.cb (ckB q F st')) q F Fs mn st' :=
 w.off hd (OffP.set h _) (by show (if q.cb=q.cb then _ else _)=_;rw [if_pos rfl]) e1 e2 e3
theorem spec_tf {s:SpecS} {l:LfS} (hs:specTy s=some l) (C:Value) (h:Hp):TF Tryz.prog 69 ⟨[C,.agg ⟨specC s⟩]⟩ h (.agg ⟨intC l⟩) h:=by
 refine TF.exact (fn:=Tryz.f69) (c:=(Tryz.f69.body.getD .skip)) Tryz.func69 (by kernel_rfl) Tryz.ntmps69 (by kernel_rfl) (fun s0=>old0 s0 (by simp [intC])) fun π s0=>?_
 conv=>arg 2;whnf
 obtain ⟨sec,w,u,sn,p⟩:=s
 unfold specTy at hs
 dsimp only at hs
 have key:(w=bChar∧l=⟨1,!u,sec⟩)∨(w=bShort∧l=⟨2,!u,sec⟩)∨(w=bInt∧l=⟨4,!u,sec⟩)∨(w=bLong∧l=⟨8,!u,sec⟩):=by
  split at hs
  ·rename_i h1;injection hs with hs;exact .inl ⟨eqB_iff.1 h1,hs.symm⟩
  split at hs
  ·rename_i h1;injection hs with hs;exact .inr (.inl ⟨eqB_iff.1 h1,hs.symm⟩)
  split at hs
  ·rename_i h1;injection hs with hs;exact .inr (.inr (.inl ⟨eqB_iff.1 h1,hs.symm⟩))
  split at hs
  ·rename_i h1;injection hs with hs;exact .inr (.inr (.inr ⟨eqB_iff.1 h1,hs.symm⟩))
  ·cases hs
 clear hs
 rcases key with ⟨rfl,rfl⟩|⟨rfl,rfl⟩|⟨rfl,rfl⟩|⟨rfl,rfl⟩
 all_goals repeat (first|refine Y3m ?_|((with_reducible first|apply RS.move|apply RS.assign|apply RS.not|apply RS.fieldAddr|apply RS.box);iterate 3 exact rfl)|refine Y2v ?_|refine Yh ?_|refine Yg ?_|refine Y2 ?_|refine Y9 ?_|refine Y0 ?_|refine Y18 ?_|refine Y1 ?_|refine Y5 ?_|refine Y3 ?_)
 all_goals exact endsK_ret _ (.cons (.cellN rfl rfl rfl (Nat.le_of_ble_eq_true rfl)) .nil) fun B' a=>⟨rfl,a.up⟩
end
theorem newN {P:Program} {h B':Hp} {π:Nat→Nat} {k:Nat} {l:List (Nat × Option Blk)} (a:Absb (P:=P) ⟨h,π,k,l⟩ B') {v:Value} {b i j op pos:Nat} {L:LfS} {hid:Bool} {text:ByteArray} {num:Int} {ref:Nat} (hb:b < h.n) (hv:v=ptrC (π j)) (hi:i < k) (hj:j < k) (hij:i≠j)
 (m1:lookB l i=some ⟨⟨[ptrC b]⟩,192⟩) (m2:lookB l j=some ⟨⟨nodeC op pos (.int L) 0 hid text num ref (some ⟨π i,0,none⟩) 1 1⟩,225⟩) :
 ∃ i j,i≠j∧h.n≤i∧h.n≤j∧(∀ τ:Nat→Nat,(∀ x,x < h.n→τ x=x)→τ h.n=i→τ (h.n+1)=j→v=sub τ (ptrC (h.n+1))∧B'.m i=some (subB τ ⟨⟨[ptrC b]⟩,192⟩)∧B'.m j=some (subB τ ⟨⟨nodeC op pos (.int L) 0 hid text num ref (some ⟨h.n,0,none⟩) 1 1⟩,225⟩))∧(h.n≤B'.n∧∀ x,x < h.n→B'.m x=h.m x):=by
 refine ⟨π i,π j,fun e=>hij (a.inj i j hi hj e),a.lo i hi,a.lo j hj,fun τ h1 h2 h3=>⟨?_,?_,?_⟩,a.le,a.old⟩
 ·rw [hv];simp [ptrC,h3]
 ·rw [a.loc i hi,m1];simp [ptrC,subB,h1 b hb]
 ·rw [a.loc j hj,m2];simp [subB,nodeC,tyC,intC,h2]
section
variable {h:Hp}
theorem conv_same_tf {b op pos:Nat} {le l:LfS} {tb:Nat} {hid:Bool} {text:ByteArray} {num:Int} {ref:Nat} {A:Option Addr} {n c:Nat} (C:Value) (hm:h.m b=some ⟨⟨nodeC op pos (.int le) tb hid text num ref A n c⟩,225⟩) (hs:sameL ⟨l.size,l.sg,l.sec || le.sec⟩ le=true):TF Tryz.prog 126 ⟨[C,ptrC b,.agg ⟨intC l⟩]⟩ h (ptrC b) h:=by
 refine TF.exact (fn:=Tryz.f126) (c:=(Tryz.f126.body.getD .skip)) Tryz.func126 (by kernel_rfl) Tryz.ntmps126 (by kernel_rfl) (fun s0=>old0 s0 (by simp [ptrC];exact s0.dom _ _ hm)) fun π s0=>?_
 conv=>arg 2;whnf
 have hsame:∀ H,TF Tryz.prog 122 ⟨[.agg ⟨intC ⟨l.size,l.sg,l.sec || le.sec⟩⟩,.agg ⟨intC le⟩]⟩ H (.bool true) H:=fun H=>by rw [← hs];exact same_tf _ _ H
 clear hs
 obtain ⟨sz,sg,sc⟩:=l
 cases sc
 all_goals repeat (first|((with_reducible apply RS.load1B);(iterate 3 exact rfl);exact hm;exact s0.dom _ _ hm;exact rfl)|refine Y5k ?_|refine Y69 ?_|refine Yj ?_|refine Yd ?_|refine Yc ?_|refine Yh ?_|refine Yg ?_|refine Y2 ?_|refine Yk ?_|refine Y0 ?_|refine Y13 ?_|refine Y1 ?_|refine Y5 ?_)
 all_goals exact endsK_ret _ (.cons (.tmp rfl) .nil) fun B' a=>⟨rfl,a.up⟩
theorem conv_new0 {b op pos:Nat} {le l:LfS} {tb:Nat} {hid:Bool} {text:ByteArray} {num:Int} {ref:Nat} {A:Option Addr} {n c:Nat} (C:Value) (hm:h.m b=some ⟨⟨nodeC op pos (.int le) tb hid text num ref A n c⟩,225⟩) (hb:b < h.n) (hs:sameL ⟨l.size,l.sg,l.sec || le.sec⟩ le=false) :
 TF Tryz.prog 126 ⟨[C,ptrC b,.agg ⟨intC l⟩]⟩ h (ptrC (h.n+1)) ((h.push ⟨⟨[ptrC b]⟩,192⟩).push ⟨⟨nodeC 9 pos (.int ⟨l.size,l.sg,l.sec || le.sec⟩) 0 false eS 0 0 (some ⟨h.n,0,none⟩) 1 1⟩,225⟩):=by
 have hsame:∀ H,TF Tryz.prog 122 ⟨[.agg ⟨intC ⟨l.size,l.sg,l.sec || le.sec⟩⟩,.agg ⟨intC le⟩]⟩ H (.bool false) H:=fun H=>by rw [← hs];exact same_tf _ _ H
 clear hs
 refine EX.two ?_ (by simp [ptrC];omega) (by simp [nodeC,tyC,intC]) (by simp [ptrC])
 obtain ⟨sz,sg,sc⟩:=l
 refine EX.intro (fn:=Tryz.f126) (c:=(Tryz.f126.body.getD .skip)) Tryz.func126 (by kernel_rfl) Tryz.ntmps126 (by kernel_rfl) fun π s0=>?_
 conv=>arg 2;whnf
 cases sc
 all_goals repeat (first|((with_reducible apply RS.load1B);(iterate 3 exact rfl);exact hm;exact s0.dom _ _ hm;exact rfl)|refine Y5k ?_|refine Yi ?_|refine Y69 ?_|refine Yj ?_|refine Yd ?_|refine Yc ?_|refine Yh ?_|refine Yg ?_|refine Y2 ?_|refine Ya ?_|refine Yk ?_|refine Y0 ?_|refine Yv ?_|refine Y1 ?_|refine Y3 ?_)
 all_goals
  exact endsK_ret _ (.cons (.tmp rfl) .nil) fun B' a=>newN a (i:=1) (j:=2) hb rfl (by decide) (by decide) (by decide) rfl rfl
theorem conv_new_tf {b op pos:Nat} {le l:LfS} {tb:Nat} {hid:Bool} {text:ByteArray} {num:Int} {ref:Nat} {A:Option Addr} {n c:Nat} (C:Value) (hm:h.m b=some ⟨⟨nodeC op pos (.int le) tb hid text num ref A n c⟩,225⟩) (hs:sameL ⟨l.size,l.sg,l.sec || le.sec⟩ le=false) :
 TF Tryz.prog 126 ⟨[C,ptrC b,.agg ⟨intC l⟩]⟩ h (ptrC (h.n+1)) ((h.push ⟨⟨[ptrC b]⟩,192⟩).push ⟨⟨nodeC 9 pos (.int ⟨l.size,l.sg,l.sec || le.sec⟩) 0 false eS 0 0 (some ⟨h.n,0,none⟩) 1 1⟩,225⟩):=by
 intro ha ρ W hok
 exact conv_new0 C hm (hok.lt _ _ hm) hs ha ρ W hok
end
end Go.Proofs.YtgpigfcagppohaaGreatDoor
