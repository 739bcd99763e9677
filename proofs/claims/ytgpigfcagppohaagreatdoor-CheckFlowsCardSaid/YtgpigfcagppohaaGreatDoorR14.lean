/-
  What the functions that the law reaches compute,told by plain data;it holds of programs that pass the check of right form and are light.
-/
import Derived.Test.YtgpigfcagppohaaGreatDoorR13
import Derived.Test.YtgpigfcagppohaaGreatDoorR5
import Derived.Test.YtgpigfcagppohaaGreatDoorS2
import Derived.Test.YtgpigfcagppohaaGreatDoorS3
set_option linter.unusedVariables false
set_option linter.unusedSimpArgs false
namespace Go.Proofs.YtgpigfcagppohaaGreatDoor
open Go.AH
attribute [local irreducible] W RS WR
theorem rawN_ok:∀ n,RawOK (rawM n)
 | 0=>fun _ _ _ _ hs=>by cases hs
 | n+1=>raw_ok (rawN_ok n) (cond_ok (rawN_ok n))
section
variable {h:Hp} {q:Pl} {st st':CS}
theorem size_ptr_tf (l:LfS) (b:Nat) (T:Value) (h:Hp):TF Tryz.prog 44 ⟨[T,.agg ⟨tyC (.ptr l) b⟩]⟩ h (.int .i64 8) h:=by
 refine TF.exact (fn:=Tryz.f44) (c:=(Tryz.f44.body.getD .skip)) Tryz.func44 (by kernel_rfl) Tryz.ntmps44 (by kernel_rfl) (fun s0=>old0 s0 (by simp)) fun π s0=>?_
 conv=>arg 2;whnf
 repeat (first|((with_reducible first|apply RS.assign|apply RS.fieldAddr|apply RS.box);iterate 3 exact rfl)|refine Y4 ?_|refine Yo ?_|refine Yh ?_|refine Y0 ?_|refine Yz ?_|refine Y1 ?_|refine Y5 ?_|refine Y3 ?_)
 exact endsK_ret _ (.cons (.tmp rfl) .nil) fun B' a=>⟨rfl,a.up⟩
theorem sizeA_tf {t:TyS} {n:Nat} (hs:sizeS t=some n) (T:Value) {b:Nat} {h:Hp} (ht:TyE h t b):TF Tryz.prog 44 ⟨[T,.agg ⟨tyC t b⟩]⟩ h (.int .i64 n) h:=by
 cases t with
 | ptr l=>injection hs with hs;subst hs;exact size_ptr_tf l b T h
 | void=>exact size_tf hs T ht (fun l e=>by cases e)
 | int l=>exact size_tf hs T ht (fun l e=>by cases e)
 | arr l m=>exact size_tf hs T ht (fun l e=>by cases e)
theorem sizeS_pos {t:TyS} {n:Nat} (hs:sizeS t=some n):n≠0:=by
 cases t with
 | void=>cases hs
 | ptr l=>injection hs with hs;subst hs;decide
 | int l =>
  have hs:(if l.size=0 then none else some l.size)=some n:=hs
  split at hs
  ·cases hs
  ·injection hs with hs;subst hs;assumption
 | arr l m =>
  have hs:(if l.size=0∨8 < l.size∨m=0∨4096 < m then none else some (m * l.size))=some n:=hs
  split at hs
  ·cases hs
  ·rename_i hc
   injection hs with hs;subst hs
   have h1:0 < m * l.size:=Nat.mul_pos (by omega) (by omega)
   omega
theorem sized_tf {F Fs:Value} {mn:Int} (w:ChkW h q F Fs mn st) {t:TyS} {n b p:Nat} (hs:sizeS t=some n) (ht:TyE h t b):TF Tryz.prog 37 ⟨[ptrC q.cb,.agg ⟨tyC t b⟩,.int .i64 p]⟩ h (.int .i64 n) h:=by
 refine TF.exact (fn:=Tryz.f37) (c:=(Tryz.f37.body.getD .skip)) Tryz.func37 (by kernel_rfl) Tryz.ntmps37 (by kernel_rfl) (fun s0=>old0 s0 (by simp)) fun π s0=>?_
 conv=>arg 2;whnf
 have hn:=sizeS_pos hs
 cases t with
 | void=>cases hs
 | ptr l =>
  repeat (first|refine Y3b ?_|refine Y2h ?_|refine Yj ?_|refine Y4 ?_|refine Yg ?_|refine Y0 ?_|refine Yv ?_|refine Y1 ?_|refine Y3 ?_)
  exact endsK_ret _ (.cons (.tmp rfl) .nil) fun B' a=>⟨rfl,a.up⟩
 | int l =>
  repeat (first|refine Y3b ?_|refine Y2h ?_|refine Yj ?_|refine Y4 ?_|refine Yg ?_|refine Y0 ?_|refine Yv ?_|refine Y1 ?_|refine Y3 ?_)
  exact endsK_ret _ (.cons (.tmp rfl) .nil) fun B' a=>⟨rfl,a.up⟩
 | arr l m =>
  repeat (first|refine Y3b ?_|refine Y2h ?_|refine Yj ?_|refine Y4 ?_|refine Yg ?_|refine Y0 ?_|refine Yv ?_|refine Y1 ?_|refine Y3 ?_)
  exact endsK_ret _ (.cons (.tmp rfl) .nil) fun B' a=>⟨rfl,a.up⟩
def LcOK (st:CS):Prop:=∀ t∈st.lc,∀ n,sizeS t=some n→n≤32768
theorem upS8_le {n:Nat} (h:n≤32768):upS8 n≤32768:=by unfold upS8;omega
theorem bytes_le:∀ {l:List TyS} {m:Nat},(∀ t∈l,∀ n,sizeS t=some n→n≤32768)→bytesS l=some m→m≤l.length * 32768
 | [],m,_,h=>by injection h with h;subst h;exact Nat.zero_le _
 | t::l,m,hl,h=>by
  unfold bytesS at h
  obtain ⟨n,h1,h⟩:=bind_some' h
  obtain ⟨k,h2,h⟩:=bind_some' h
  injection h with h
  have a1:=upS8_le (hl t (List.mem_cons_self ..) n h1)
  have a2:=bytes_le (fun t ht=>hl t (List.mem_cons_of_mem _ ht)) h2
  rw [List.length_cons,Nat.succ_mul];omega
theorem bytes_tf (w:ChkF h q st) {m:Nat} (hs:bytesS st.lc=some m) (hl:LcOK st):TF Tryz.prog 75 ⟨[ptrC q.cb]⟩ h (.int .i64 m) h:=by
 refine TF.exact (fn:=Tryz.f75) (c:=(Tryz.f75.body.getD .skip)) Tryz.func75 (by kernel_rfl) Tryz.ntmps75 (by kernel_rfl) (fun s0=>old0 s0 (by simp)) fun π s0=>?_
 conv=>arg 2;whnf
 have hll:=w.ll
 have hm0:=Nat.le_trans (bytes_le hl hs) (Nat.mul_le_mul_right 32768 w.ll)
 ((with_reducible apply W.seq);repeat (first|refine Yw ?_|refine Y0 ?_|refine Y1 ?_|refine Ym ?_))
 ((with_reducible apply W.seq);repeat (first|refine Yw ?_|refine Y0 ?_|refine Y1 ?_|refine Ym ?_))
 ((with_reducible apply W.seq);repeat (fail))
 ((with_reducible apply W.seq);repeat (first|((with_reducible apply RS.load1B);(iterate 3 exact rfl);first|exact w.w.c;exact s0.dom _ _ w.w.c;exact rfl|exact w.f;exact s0.dom _ _ w.f;exact rfl)|refine Yy ?_|refine Y0 ?_|refine Y1 ?_|refine Y24 ?_))
 refine W.loopN (X:=Nat × Nat) (fun x=>[(0,ptrC q.cb),(3,.int .i64 x.2),(12,.slice (rA1 q.lb st.lc) st.lc.length (rK1 15 st.lc)),(13,.int .i64 st.lc.length),(14,.int .i64 x.1)]) (fun x B=>(x.1≤st.lc.length∧∃ r,bytesS (st.lc.drop x.1)=some r∧x.2+r=m)∧∀ x b,h.m x=some b→B.m x=some b) (fun x=>st.lc.length - x.1)
  (fun B' a=>⟨(0,0),?_,⟨Nat.zero_le _,m,hs,Nat.zero_add _⟩,a.up⟩) ?_
 ·(repeat' (first|exact trivial|exact rfl|apply And.intro));done
 rintro ⟨i,acc⟩ B π1 sB ⟨⟨hle,r,hr,hsum⟩,hup⟩
 dsimp only at hle hr hsum hup ⊢
 have hdB:=sB.dom
 have wB:=w.upN (fun i b hb _=>hup i b hb)
 by_cases hi:i < st.lc.length
 ·obtain ⟨t,ht⟩:∃ x,st.lc[i]?=some x:=⟨_,List.getElem?_eq_getElem hi⟩
  have hlne:st.lc≠[]:=fun e=>by rw [e] at hi;exact absurd hi (Nat.not_lt_zero _)
  have hla:=rA1_some (b:=q.lb) hlne
  obtain ⟨gs,hg⟩:=wB.l hlne
  obtain ⟨row,hrow,nm',tb,mem,rfl,hte⟩:=rows_at hg ht
  have hlm:=hg.m
  obtain ⟨htk2,hlen2⟩:=flatT hg.wid hrow (o:=0) (n:=15) (by omega)
  rw [varC_all] at htk2
  rw [List.drop_eq_getElem_cons hi,(List.getElem_eq_iff hi).2 ht,bytesS] at hr
  obtain ⟨n,h1,hr⟩:=bind_some' hr
  obtain ⟨r',h2,hr⟩:=bind_some' hr
  injection hr with hr
  have hn:=hl t (List.mem_of_getElem? ht) n h1
  cases t
  all_goals repeat (first|((with_reducible apply RS.load1B);(iterate 3 exact rfl);first|exact wB.w.c;exact hdB _ _ wB.w.c;exact rfl|exact wB.w.p;exact hdB _ _ wB.w.p;exact rfl)|((with_reducible apply (RS.indexAddrS (n:=i)));(iterate 2 exact rfl);exact congrArg (fun a=>some (Value.slice a st.lc.length (rK1 15 st.lc))) hla;(iterate 2 exact rfl);exact hi)|((with_reducible apply (RS.loadNB (vs:=_)));(iterate 3 exact rfl);exact hlm;exact hdB _ _ hlm;exact hlen2;exact htk2)|((with_reducible apply (RS.callB (g0:=44)));(iterate 3 exact rfl);exact fun H hH=>sizeA_tf h1 _ (TyE.up (KeptX.of fun i b hb=>(hH _ (hdB _ _ hb)).trans hb) hte);exact Nm_free (by simp))|((with_reducible apply (RS.callP (g0:=38)));(iterate 3 exact rfl);exact fun H=>up8_tf n (Nat.le_trans hn (by decide)) H;exact Nm_free (by simp))|((with_reducible apply (RS.binFit (n:=((acc+upS8 n:Nat):Int))));(iterate 4 exact rfl);exact congrArg some (show (acc:Int)+(upS8 n:Nat)=((acc+upS8 n:Nat):Int) by omega);omega)|refine Y8 ?_|refine Y6 ?_|refine Yp ?_|refine Yg ?_|refine Y2 ?_|refine Y9 ?_|refine Y0 ?_|refine Yt ?_|refine Y1 ?_|refine Y5 ?_)
  all_goals refine roundN_n rfl fun B' a=>⟨(i+1,acc+upS8 n),?_,⟨⟨by dsimp only;omega,r',h2,by dsimp only;omega⟩,fun x b hb=>a.up _ _ (hup _ _ hb)⟩,by dsimp only;omega⟩
  all_goals (repeat' (first|exact trivial|exact rfl|apply And.intro));done
 ·have hm:acc=m:=by
   rw [List.drop_eq_nil_of_le (by omega)] at hr
   injection hr with hr
   omega
  subst hm
  repeat (first|refine Y7 ?_|refine Y4 ?_|refine Y0 ?_|refine Y1t ?_|refine Y1 ?_|refine Y3 ?_|refine Yn ?_)
  exact endsK_ret _ (.cons (.tmp rfl) .nil) fun B' a=>⟨rfl,fun x b hb=>a.up _ _ (hup _ _ hb)⟩
end
section
variable {h:Hp} {q:Pl} {st st':CS} {F Fs:Value} {mn:Int}
theorem enter_tf (w:ChkW h q F Fs mn st) (hd:st.depth < 1000):TF Tryz.prog 78 ⟨[ptrC q.cb]⟩ h (.tuple ⟨[]⟩) (h.set q.cb (ckB q F { st with depth:=st.depth+1 })):=by
 refine TF.exact (fn:=Tryz.f78) (c:=(Tryz.f78.body.getD .skip)) Tryz.func78 (by kernel_rfl) Tryz.ntmps78 (by kernel_rfl) (fun s0=>ck_set w (st':={ st with depth:=st.depth+1 }) rfl s0 (by simp)) fun π s0=>?_
 conv=>arg 2;whnf
 repeat (first|refine Y3q ?_|((with_reducible apply (RS.binFit (n:=((st.depth+1:Nat):Int))));(iterate 4 exact rfl);exact congrArg some (show (st.depth:Int)+1=((st.depth+1:Nat):Int) by omega);omega)|((with_reducible apply (RS.storeB (cs':=ckC q F { st with depth:=st.depth+1 })));(iterate 3 exact rfl);exact w.c;exact s0.dom _ _ w.c;exact w.cw;exact Nat.le_of_ble_eq_true rfl;iterate 3 exact rfl)|refine Yf ?_|refine Y0 ?_|refine Y1 ?_)
 exact endsK_normal _ .nil fun B' a=>⟨rfl,a.up⟩
theorem dropR {α:Type} (p:α→Bool) {l:List α} {k:Nat} {x:α} (hx:l[k]?=some x):((l.take (k+1)).reverse.dropWhile p).reverse=if p x then ((l.take k).reverse.dropWhile p).reverse else l.take (k+1):=by
 have e:l.take (k+1)=l.take k++[x]:=by rw [List.take_add_one,hx];rfl
 rw [e,List.reverse_append,List.reverse_cons,List.reverse_nil,List.nil_append,List.singleton_append,List.dropWhile_cons]
 split
 ·rfl
 ·rw [List.reverse_cons,List.reverse_reverse]
theorem NmAt.cut {na:Option Addr} {nc:Nat} {nm:List (ByteArray × Nat × Nat)} (hn:NmAt h na nc nm) (k:Nat):NmAt h na nc (nm.take k):=by
 rcases hn with ⟨h1,h2,h3⟩|⟨b,cs,st,h1,h2,h3,h4,h5⟩
 ·subst h3;exact .inl ⟨h1,h2,List.take_nil⟩
 ·refine .inr ⟨b,_,nm.drop k++st,h1,h2,?_,h4,rfl⟩
  rw [← List.append_assoc,List.take_append_drop];exact h3
theorem leaveS_take {st:CS} {k:Nat} (hk:(st.nm.reverse.dropWhile (fun x=>decide (st.depth - 1 < x.2.2))).reverse=st.nm.take k):leaveS st={ st with depth:=st.depth - 1,nm:=st.nm.take k }:=by
 unfold leaveS;rw [hk]
theorem nm_len {na:Option Addr} {nc:Nat} {nm:List (ByteArray × Nat × Nat)} (hn:NmAt h na nc nm) (hne:nm≠[]):∃ b cs,na=some ⟨b,0,none⟩∧nc=capOf 3∧h.m b=some ⟨⟨cs⟩,186⟩∧rwM≤b∧nm.length * 3≤cs.length:=by
 rcases hn with ⟨_,_,h3⟩|⟨b,cs,st,h1,h2,h3,h4,h5⟩
 ·exact absurd h3 hne
 ·refine ⟨b,_,h1,h2,h3,h4,?_⟩
  have hw:∀ c∈(nm++st).map nmC,c.length=3:=by
   intro c hc
   obtain ⟨y,_,rfl⟩:=List.mem_map.1 hc
   rfl
  unfold nmsC
  rw [flat_len hw,List.length_map,List.length_append,Nat.add_mul];omega
theorem bnd_len {n:Nat} {A:Option Addr} {l l' c:Nat} (h:bnd n (.slice A l c)):bnd n (.slice A l' c):=by
 cases A with
 | none=>simp
 | some a=>simpa using h
theorem ck_setL (w:ChkW h q F Fs mn st) (st':CS) (s:Sat Tryz.prog h) {v:Value} (hv:bnd h.n v):h.n≤(h.set q.cb (ckB q F st')).n∧bnd (h.set q.cb (ckB q F st')).n v∧∀ i b,(h.set q.cb (ckB q F st')).m i=some b→i < (h.set q.cb (ckB q F st')).n∧∀ u∈b.cells,bnd (h.set q.cb (ckB q F st')).n u:=by
 refine ⟨Nat.le_refl _,hv,fun i b hb=>?_⟩
 have hb:(if i=q.cb then some (ckB q F st') else h.m i)=some b:=hb
 by_cases e:i=q.cb
 ·rw [if_pos e] at hb
  injection hb with hb
  subst hb;subst e
  refine ⟨s.dom _ _ w.c,fun u hu=>?_⟩
  have h0:=s.bd _ _ w.c
  have hu:u∈ckC q F st':=by simpa [ckB] using hu
  simp only [ckC,List.mem_cons,List.not_mem_nil,or_false] at hu
  rcases hu with rfl|rfl|rfl|rfl|rfl|rfl|rfl|rfl|rfl
  ·show bnd h.n (.int _ _);simp
  ·show bnd h.n (.int _ _);simp
  ·exact h0 _ (by simp [ckB,ckC])
  ·exact h0 _ (by simp [ckB,ckC])
  ·exact h0 _ (by simp [ckB,ckC])
  ·exact bnd_len (h0 (.slice q.na st.nm.length q.nc) (by simp [ckB,ckC]))
  all_goals (show bnd h.n (.int _ _);simp)
 ·rw [if_neg e] at hb
  exact ⟨s.dom _ _ hb,s.bd _ _ hb⟩
theorem leave_tf (w:ChkW h q F Fs mn st) (hd:0 < st.depth) (hdm:st.depth≤1000):TF Tryz.prog 80 ⟨[ptrC q.cb]⟩ h (.tuple ⟨[]⟩) (h.set q.cb (ckB q F (leaveS st))):=by
 refine TF.exact (fn:=Tryz.f80) (c:=(Tryz.f80.body.getD .skip)) Tryz.func80 (by kernel_rfl) Tryz.ntmps80 (by kernel_rfl) (fun s0=>ck_setL w (leaveS st) s0 (by simp)) fun π s0=>?_
 conv=>arg 2;whnf
 have w1:ChkW (h.set q.cb (ckB q F { st with depth:=st.depth - 1 })) q F Fs mn { st with depth:=st.depth - 1 }:=w.set rfl rfl rfl s0.dom
 have hd1:∀ i b,(h.set q.cb (ckB q F { st with depth:=st.depth - 1 })).m i=some b→i < h.n:=fun i b hb=>by
  have hb:(if i=q.cb then _ else h.m i)=some b:=hb
  by_cases e:i=q.cb
  ·rw [e];exact s0.dom _ _ w.c
  ·rw [if_neg e] at hb;exact s0.dom _ _ hb
 have hnl:=w.nl
 ((with_reducible apply W.seq);repeat (first|refine Y3q ?_|((with_reducible apply (RS.binFit (n:=((st.depth - 1:Nat):Int))));(iterate 4 exact rfl);exact congrArg some (show (st.depth:Int) - 1=((st.depth - 1:Nat):Int) by omega);omega)|((with_reducible apply (RS.storeB (cs':=ckC q F { st with depth:=st.depth - 1 })));(iterate 3 exact rfl);exact w.c;exact s0.dom _ _ w.c;exact w.cw;exact Nat.le_of_ble_eq_true rfl;iterate 3 exact rfl)|refine Yf ?_|refine Y0 ?_|refine Y1 ?_|refine Ym ?_))
 ((with_reducible apply W.seq);repeat (first|((with_reducible apply RS.load1B);(iterate 3 exact rfl);exact w1.c;exact hd1 _ _ w1.c;exact rfl)|refine Y1c ?_|refine Y0 ?_|refine Y1 ?_|refine Ym ?_))
 ((with_reducible apply W.seq);repeat (first|(with_reducible apply W.block)))
 refine W.loopN (X:=Nat) (fun k=>[(0,ptrC q.cb),(2,.int .i64 (k:Int))]) (fun k B=>k≤st.nm.length∧(st.nm.reverse.dropWhile (fun x=>decide (st.depth - 1 < x.2.2))).reverse=((st.nm.take k).reverse.dropWhile (fun x=>decide (st.depth - 1 < x.2.2))).reverse∧∀ x b,(h.set q.cb (ckB q F { st with depth:=st.depth - 1 })).m x=some b→B.m x=some b) (fun k=>k)
  (fun B' a=>⟨st.nm.length,?_,Nat.le_refl _,by rw [List.take_length],a.up⟩) ?_
 ·(repeat' (first|exact trivial|exact rfl|apply And.intro));done
 rintro k B π1 sB ⟨hle,hdr,hup⟩
 dsimp only at hle hdr hup ⊢
 have hdB:=sB.dom
 have wB:=w1.upA hup
 have fin:∀ k,k≤st.nm.length→(st.nm.reverse.dropWhile (fun x=>decide (st.depth - 1 < x.2.2))).reverse=st.nm.take k→∀ {A:Option Addr} {C:Nat},q.na=A→q.nc=C→ckC q F (leaveS st)=[.int .i64 st.fk,.int .i64 st.fa,ptrC q.ub,ptrC q.pb,F,.slice A k C,.int .i64 ((st.depth - 1:Nat):Int),.int .i64 0,.int .i64 0]:=by
  intro k hk he A C hA hC
  rw [leaveS_take he,← hA,← hC]
  unfold ckC
  dsimp only
  rw [List.length_take,Nat.min_eq_left hk]
 have tail:∀ cs',ckC q F (leaveS st)=cs'→∀ i b,(h.set q.cb (ckB q F (leaveS st))).m i=some b→(B.set q.cb ⟨⟨cs'⟩,66⟩).m i=some b:=by
  intro cs' e i b hb
  have hb:(if i=q.cb then some (ckB q F (leaveS st)) else h.m i)=some b:=hb
  show (if i=q.cb then _ else B.m i)=some b
  by_cases hi:i=q.cb
  ·rw [if_pos hi] at hb ⊢;rw [← hb,← e];rfl
  ·rw [if_neg hi] at hb ⊢
   exact hup i b (by show (if i=q.cb then _ else h.m i)=some b;rw [if_neg hi];exact hb)
 cases k with
 | zero =>
  have he:(st.nm.reverse.dropWhile (fun x=>decide (st.depth - 1 < x.2.2))).reverse=st.nm.take 0:=hdr
  rcases w.n with ⟨hA,hC,hN⟩|⟨nb0,cs0,sl0,hA0,_⟩
  ·have hsn:some (Value.slice q.na st.nm.length q.nc)=some (.slice none 0 0):=by rw [hA,hC,hN];rfl
   repeat (first|refine Y3t ?_|refine Y6n ?_|((with_reducible apply (RS.storeB (cs':=[.int .i64 st.fk,.int .i64 st.fa,ptrC q.ub,ptrC q.pb,F,.slice none 0 0,.int .i64 ((st.depth - 1:Nat):Int),.int .i64 0,.int .i64 0])));(iterate 3 exact rfl);exact wB.c;exact hdB _ _ wB.c;exact wB.cw;exact Nat.le_of_ble_eq_true rfl;iterate 3 exact rfl)|refine Yf ?_|refine Yc ?_|refine Y4 ?_|refine Yk ?_|refine Y0 ?_|refine Y36 ?_|refine Y1 ?_|refine Y3 ?_|refine Yn ?_)
   exact endsK_normal _ .nil fun B' a=>⟨rfl,fun i b hb=>a.up _ _ (tail _ (fin 0 hle he hA hC) i b hb)⟩
  ·obtain ⟨nb,ncs,hA,hC,hnm,hnw,hn3⟩:∃ nb ncs,q.na=some ⟨nb,0,none⟩∧q.nc=capOf 3∧B.m nb=some ⟨⟨ncs⟩,186⟩∧rwM≤nb∧0 * 3≤ncs.length:=by
    rcases wB.n with ⟨hA,_,_⟩|⟨b,cs,sl,h1,h2,h3,h4,_⟩
    ·rw [hA0] at hA;cases hA
    ·exact ⟨b,_,h1,h2,h3,h4,by omega⟩
   have hsw:some (Value.slice q.na st.nm.length q.nc)=some (.slice (some ⟨nb,0,none⟩) st.nm.length (capOf 3)):=by rw [hA,hC]
   repeat (first|refine Y3t ?_|refine Y4n ?_|refine Y27 ?_|refine Yf ?_|refine Yc ?_|refine Y4 ?_|refine Yk ?_|refine Y0 ?_|refine Y36 ?_|refine Y1 ?_|refine Y3 ?_|refine Yn ?_)
   exact endsK_normal _ .nil fun B' a=>⟨rfl,fun i b hb=>a.up _ _ (tail _ (fin 0 hle he hA hC) i b hb)⟩
 | succ k =>
  have hk:k < st.nm.length:=hle
  obtain ⟨x,hxx⟩:∃ x,st.nm[k]?=some x:=⟨_,List.getElem?_eq_getElem hk⟩
  obtain ⟨b,cs,hna,hnc,hmb,htk,hlen⟩:=nm_row wB.n hxx
  rw [dropR _ hxx] at hdr
  have hc2:cs[0+k * 3+2]?=some (Value.int .i64 x.2.2):=by
   have:=congrArg (fun l=>l[2]?) htk
   rw [takeV_eq] at this
   simpa [List.getElem?_take,List.getElem?_drop,nmC] using this
  by_cases hx:st.depth - 1 < x.2.2
  ·rw [if_pos (decide_eq_true hx)] at hdr
   repeat (first|refine Y3t ?_|refine Y20 ?_|refine Y5z ?_|refine Y50 ?_|refine Y8 ?_|refine Yd ?_|refine Y6 ?_|refine Y0 ?_|refine Yt ?_|refine Y1 ?_|refine Y5 ?_)
   refine roundN_n rfl fun B' a=>⟨k,?_,⟨by omega,hdr,fun x b hb=>a.up _ _ (hup _ _ hb)⟩,Nat.lt_succ_self k⟩
   (repeat' (first|exact trivial|exact rfl|apply And.intro));done
  ·rw [if_neg (by rw [decide_eq_true_eq];exact hx)] at hdr
   obtain ⟨nb,ncs,hA,hC,hnm,hnw,hn3⟩:=nm_len wB.n (fun e=>by rw [e] at hk;exact absurd hk (Nat.not_lt_zero _))
   have hsw:some (Value.slice q.na st.nm.length q.nc)=some (.slice (some ⟨nb,0,none⟩) st.nm.length (capOf 3)):=by rw [hA,hC]
   have hn3:(k+1) * 3≤ncs.length:=Nat.le_trans (Nat.mul_le_mul_right 3 hle) hn3
   repeat (first|refine Y3t ?_|refine Y20 ?_|refine Y5z ?_|refine Y50 ?_|refine Y4n ?_|refine Y27 ?_|refine Yf ?_|refine Yd ?_|refine Y6 ?_|refine Y4 ?_|refine Y0 ?_|refine Y36 ?_|refine Y1 ?_|refine Y3 ?_|refine Yn ?_)
   exact endsK_normal _ .nil fun B' a=>⟨rfl,fun i b hb=>a.up _ _ (tail _ (fin (k+1) hle hdr hA hC) i b hb)⟩
end
def KeptO (ob:Nat) (h h':Hp):Prop:=∀ i c,i≠ob→h.m i=some c→keptC c.elem=true→h'.m i=some c
theorem KeptX.o {h h':Hp} (k:KeptX h h') (ob:Nat):KeptO ob h h':=fun i c _ hi hk=>k i c hi hk
theorem KeptO.trans {ob:Nat} {a b c:Hp} (h1:KeptO ob a b) (h2:KeptO ob b c):KeptO ob a c:=fun i x hn hx hk=>h2 i x hn (h1 i x hn hx hk) hk
def Pl.mv (q:Pl) (lb:Nat) (na:Option Addr) (nc:Nat):Pl:={ q with lb:=lb,na:=na,nc:=nc }
theorem rows_first {α:Type} {h:Hp} {b:Nat} {l:List α} {e:TypeId} {R:Hp→α→List Value→Prop} {gs:List (List Value)} (r:RowsAt h b l e R 15 gs) (hl:l≠[]):∃ d c,R h d c∧c.length=15∧∀ o v,o < 15→c[o]?=some v→gs.flatten[o]?=some v:=by
 cases l with
 | nil=>exact absurd rfl hl
 | cons d l =>
  cases hg:gs with
  | nil=>have:=r.len;rw [hg] at this;simp at this
  | cons c gs' =>
   have hw:=r.wid
   have h0:gs[0]?=some c:=by rw [hg];rfl
   refine ⟨d,c,r.row 0 c d h0 rfl,hw c (List.mem_of_getElem? h0),fun o v ho hv=>?_⟩
   have:=flatG hw h0 ho hv
   rw [← hg]
   simpa using this
theorem var12 (nm:ByteArray) (t:TyS) (b:Nat) (m:Bool) (p:Nat) (D:Value):(varC nm t b m p D)[12]?=some D:=by cases t<;>rfl
theorem ChkF.lg {B:Hp} {q:Pl} {st:CS} (w:ChkF B q st) (h1:st.lc≠[]) (h2:st.gl≠[]):q.lb≠q.gb:=by
 intro e
 obtain ⟨gs,r⟩:=w.l h1
 obtain ⟨gs',r'⟩:=w.w.g h2
 have hm:gs.flatten=gs'.flatten:=by
  have:=r.m
  rw [e,r'.m] at this
  injection this with this
  injection this with this
  injection this with this
  exact this.symm
 obtain ⟨d,c,⟨nm,b,mem,rfl,_⟩,_,g1⟩:=rows_first r h1
 obtain ⟨d',c',⟨b',A,n,k,rfl,_⟩,_,g2⟩:=rows_first r' h2
 have e1:=g1 12 _ (by decide) (var12 _ _ _ _ _ _)
 have e2:=g2 12 _ (by decide) (var12 _ _ _ _ _ _)
 rw [hm,e2] at e1
 injection e1 with e1
 injection e1 with _ e1
 exact absurd e1 (Nat.succ_ne_zero _)
theorem elem_ne {B:Hp} {i j:Nat} {c1 c2:Blk} (h1:B.m i=some c1) (h2:B.m j=some c2) (he:Nat.beq c1.elem c2.elem=false):i≠j:=fun e=>by
 subst e;rw [h1] at h2;cases h2;rw [Nat.beq_refl] at he;cases he
def bodyC (kind pos:Nat) (loc:Nat) (E:Value) (A:Option Addr) (n k:Nat):List Value:=[.int .i64 kind,.int .i64 pos,.int .i64 loc,E,.pointer none,.slice A n k,.slice none 0 0]
def KeptS (h h':Hp):Prop:=∀ i b,h.m i=some b→Nat.beq b.elem 196=false→h'.m i=some b
theorem TyE.upS {h h':Hp} (hu:KeptS h h') {t:TyS} {b:Nat} (ht:TyE h t b):TyE h' t b:=by
 cases t with
 | void=>trivial
 | int l=>trivial
 | ptr l=>exact hu _ _ (show h.m b=_ from ht) rfl
 | arr l n=>exact hu _ _ (show h.m b=_ from ht) rfl
theorem NmAt.upS {h h':Hp} {na:Option Addr} {nc:Nat} {nm:List (ByteArray × Nat × Nat)} (hn:NmAt h na nc nm) (hu:KeptS h h'):NmAt h' na nc nm:=by
 rcases hn with h1|⟨b,cs,st,h1,h2,h3,h4,h5⟩
 ·exact .inl h1
 ·exact .inr ⟨b,cs,st,h1,h2,hu _ _ h3 rfl,h4,h5⟩
theorem ChkW.upS {B H:Hp} {q:Pl} {F Fs:Value} {mn:Int} {st:CS} (w:ChkW B q F Fs mn st) (hu:KeptS B H):ChkW H q F Fs mn st :=
 ⟨hu _ _ w.c rfl,hu _ _ w.p rfl,hu _ _ w.t rfl,fun hne=>by
  obtain ⟨gs,r⟩:=w.g hne
  exact ⟨gs,r.up ((hu _ _ r.m rfl).trans r.m.symm) fun d c ⟨b,A,n,k,h1,h2⟩=>⟨b,A,n,k,h1,h2.upS hu⟩⟩,w.n.upS hu,w.cw,w.pw,w.nl,w.gn⟩
theorem ChkF.upS {B H:Hp} {q:Pl} {st:CS} (w:ChkF B q st) (hu:KeptS B H):ChkF H q st :=
 ⟨w.w.upS hu,hu _ _ w.f rfl,hu _ _ w.r rfl,fun hne=>by
  obtain ⟨gs,r⟩:=w.l hne
  exact ⟨gs,r.up ((hu _ _ r.m rfl).trans r.m.symm) fun d c ⟨b,A,m,h1,h2⟩=>⟨b,A,m,h1,h2.upS hu⟩⟩,w.fw,w.ll⟩
theorem KeptS.of {h h':Hp} {ob:Nat} {c:Blk} (hu:∀ i c,i≠ob→h.m i=some c→h'.m i=some c) (hc:h.m ob=some c) (he:Nat.beq c.elem 196=true):KeptS h h':=fun i b hb hk=>hu i b (fun e=>by subst e;rw [hc] at hb;cases hb;rw [he] at hk;cases hk) hb
theorem NodeAt.upM {h h':Hp} {lo lo' b:Nat} {e:NodeS} (hu:∀ i c,h.m i=some c→keptC c.elem=true→Nat.beq c.elem 196=false→h'.m i=some c) (hl:lo'≤lo) (he:NodeAt h lo b e):NodeAt h' lo' b e :=
 ⟨he.t.upW (fun i c hc _ hk=>hu i c hc (by rcases hk with hk|hk<;>rw [hk]<;>rfl) (by rcases hk with hk|hk<;>rw [hk]<;>rfl)) hl,by
  obtain ⟨tb,tx,nu,re,A,n,c,hm,ht⟩:=he.c
  refine ⟨tb,tx,nu,re,A,n,c,hu _ _ hm rfl rfl,?_⟩
  generalize e.ty=t at ht
  cases t with
  | void=>trivial
  | int l=>trivial
  | ptr l=>exact hu _ _ (show h.m tb=_ from ht) rfl rfl
  | arr l n=>exact hu _ _ (show h.m tb=_ from ht) rfl rfl⟩
def kdT:TyS→Nat
 | .void=>0
 | .int _=>1
 | .ptr _=>2
 | .arr _ _=>3
theorem kd_le (t:TyS):kdT t≤3:=by cases t<;>exact Nat.le_of_ble_eq_true rfl
theorem node_kd (op pos:Nat) (ty:TyS) (tb:Nat) (hid:Bool) (text:ByteArray) (num:Int) (ref:Nat) (A:Option Addr) (n c:Nat):(nodeC op pos ty tb hid text num ref A n c)[2]?=some (.int .i64 (kdT ty)):=by cases ty<;>rfl
theorem ChkF.pushL {B B':Hp} {q:Pl} {v:CS} (w:ChkF B q v) {lb':Nat} {t:TyS} {row:List Value} {gs:List (List Value)} (up:∀ i c,i≠q.fb→(v.lc≠[]→i≠q.lb)→B.m i=some c→B'.m i=some c)
 (hf:B'.m q.fb=some ⟨⟨fnC { q with lb:=lb' } { v with lc:=v.lc++[t] } (.pointer none)⟩,134⟩) (hgs:v.lc≠[]→RowsAt B q.lb v.lc 74 LcRow 15 gs) (hg0:v.lc=[]→gs=[]) (hm:B'.m lb'=some ⟨⟨(gs++[row]).flatten⟩,74⟩) (hr:LcRow B t row) (hrl:row.length=15) (hlw:rwM≤lb') (hll:v.lc.length < 100) :
 ChkF B' { q with lb:=lb' } { v with lc:=v.lc++[t] }∧KeptX B B':=by
 have up2:∀ i c,B.m i=some c→Nat.beq c.elem 134=false→Nat.beq c.elem 74=false→B'.m i=some c:=fun i c hi h1 h2 =>
  up i c (elem_ne hi w.f h1) (fun hne=>by obtain ⟨gs,r⟩:=w.l hne;exact elem_ne hi r.m h2) hi
 have kx:KeptX B B':=fun i c hi hk=>up2 i c hi (by
  cases h:Nat.beq c.elem 134 with
  | false=>rfl
  | true=>rw [Nat.eq_of_beq_eq_true h] at hk;exact absurd hk (by decide)) (by
  cases h:Nat.beq c.elem 74 with
  | false=>rfl
  | true=>rw [Nat.eq_of_beq_eq_true h] at hk;exact absurd hk (by decide))
 refine ⟨⟨⟨up2 _ _ w.w.c rfl rfl,up2 _ _ w.w.p rfl rfl,up2 _ _ w.w.t rfl rfl,fun hne=>?_,?_,w.w.cw,w.w.pw,w.w.nl,w.w.gn⟩,hf,up2 _ _ w.r rfl rfl,fun _=>⟨gs++[row],?_⟩,w.fw,by simp;omega⟩,kx⟩
 ·obtain ⟨gs',r'⟩:=w.w.g hne
  refine ⟨gs',r'.up ((up _ _ (elem_ne r'.m w.f rfl) (fun hl=>(w.lg hl hne).symm) r'.m).trans r'.m.symm) fun d c=>GlRow.up kx⟩
 ·rcases w.w.n with h|⟨b,cs,st,h1,h2,h3,h4,h5⟩
  ·exact .inl h
  ·exact .inr ⟨b,cs,st,h1,h2,up2 _ _ h3 rfl rfl,h4,h5⟩
 ·have hlen:gs.length=v.lc.length:=by
   by_cases h:v.lc=[]
   ·rw [hg0 h,h];rfl
   ·exact (hgs h).len
  refine ⟨hm,by simp [hlen],fun c hc=>?_,fun i c d hc hd=>?_,hlw⟩
  ·rcases List.mem_append.1 hc with e|e
   ·by_cases h:v.lc=[]
    ·rw [hg0 h] at e;cases e
    ·exact (hgs h).wid c e
   ·rw [List.mem_singleton] at e;rw [e];exact hrl
  ·dsimp only at hd
   by_cases hi:i < gs.length
   ·rw [List.getElem?_append_left hi] at hc
    rw [List.getElem?_append_left (by rw [← hlen];exact hi)] at hd
    have hne:v.lc≠[]:=fun e=>by rw [e] at hd;simp at hd
    exact ((hgs hne).row i c d hc hd).up kx
   ·have hlt:=(List.getElem?_eq_some_iff.1 hc).1
    have hi:i=gs.length:=by simp at hlt;omega
    subst hi
    rw [List.getElem?_append_right (Nat.le_refl _)] at hc
    rw [List.getElem?_append_right (by rw [hlen];exact Nat.le_refl _)] at hd
    simp [hlen] at hc hd
    subst hc;subst hd
    exact hr.up kx
theorem ChkF.pushN {B B':Hp} {q:Pl} {v:CS} (w:ChkF B q v) {na:Option Addr} {nc:Nat} {x:ByteArray × Nat × Nat} (up:∀ i c,i≠q.cb→q.na≠some ⟨i,0,none⟩→B.m i=some c→B'.m i=some c)
 (hc:B'.m q.cb=some (ckB { q with na:=na,nc:=nc } (ptrC q.fb) { v with nm:=v.nm++[x] })) (hn:NmAt B' na nc (v.nm++[x])) (hl:v.nm.length < 100) :
 ChkF B' { q with na:=na,nc:=nc } { v with nm:=v.nm++[x] }∧KeptX B B':=by
 have hnm:∀ i c,B.m i=some c→Nat.beq c.elem 186=false→q.na≠some ⟨i,0,none⟩:=fun i c hi he e=>by
  rcases w.w.n with ⟨h,_,_⟩|⟨b,cs,st,h1,h2,h3,h4,h5⟩
  ·rw [h] at e;cases e
  ·rw [h1] at e
   injection e with e
   injection e with e
   subst e
   exact absurd rfl (elem_ne hi h3 he)
 have up2:∀ i c,B.m i=some c→Nat.beq c.elem 66=false→Nat.beq c.elem 186=false→B'.m i=some c:=fun i c hi h1 h2 =>
  up i c (elem_ne hi w.w.c h1) (hnm i c hi h2) hi
 have kx:KeptX B B':=fun i c hi hk=>up2 i c hi (by
  cases h:Nat.beq c.elem 66 with
  | false=>rfl
  | true=>rw [Nat.eq_of_beq_eq_true h] at hk;exact absurd hk (by decide)) (by
  cases h:Nat.beq c.elem 186 with
  | false=>rfl
  | true=>rw [Nat.eq_of_beq_eq_true h] at hk;exact absurd hk (by decide))
 refine ⟨⟨⟨hc,up2 _ _ w.w.p rfl rfl,up2 _ _ w.w.t rfl rfl,fun hne=>?_,hn,w.w.cw,w.w.pw,by simp;omega,w.w.gn⟩,up2 _ _ w.f rfl rfl,up2 _ _ w.r rfl rfl,fun hne=>?_,w.fw,w.ll⟩,kx⟩
 ·obtain ⟨gs',r'⟩:=w.w.g hne
  exact ⟨gs',r'.up ((up2 _ _ r'.m rfl rfl).trans r'.m.symm) fun d c=>GlRow.up kx⟩
 ·obtain ⟨gs',r'⟩:=w.l hne
  exact ⟨gs',r'.up ((up2 _ _ r'.m rfl rfl).trans r'.m.symm) fun d c=>LcRow.up kx⟩
end Go.Proofs.YtgpigfcagppohaaGreatDoor
