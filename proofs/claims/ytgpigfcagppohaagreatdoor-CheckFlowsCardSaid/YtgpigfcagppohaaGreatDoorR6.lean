/-
  What the functions that the law reaches compute,told by plain data;it holds of programs that pass the check of right form and are light.
-/
import Derived.Test.YtgpigfcagppohaaGreatDoorR5
import Derived.Test.YtgpigfcagppohaaGreatDoorS1
import Derived.Test.YtgpigfcagppohaaGreatDoorS2
set_option linter.unusedVariables false
set_option linter.unusedSimpArgs false
namespace Go.Proofs.YtgpigfcagppohaaGreatDoor
open Go.AH
attribute [local irreducible] W RS
def psB (L:List TokS) (tb cap:Nat) (st:PS):Blk:=⟨⟨psC L tb cap st⟩,95⟩
theorem tokN_get {L:List TokS} (hL:ToksOK L) (i:Nat):L[min i (L.length - 1)]?=some (tokN L i):=by
 have h:=hL.pos
 have hlt:min i (L.length - 1) < L.length:=by omega
 unfold tokN
 rw [List.getD_eq_getElem?_getD,List.getElem?_eq_getElem hlt];rfl
section
variable {L:List TokS} {tb cap pb:Nat} {h:Hp} {st:PS}
theorem par_set (p:ParAt L tb cap pb h st) (st':PS) {v:Value} (hv:bnd h.n v) (s:Sat Tryz.prog h):h.n≤(h.set pb (psB L tb cap st')).n∧bnd (h.set pb (psB L tb cap st')).n v∧∀ i b,(h.set pb (psB L tb cap st')).m i=some b→i < (h.set pb (psB L tb cap st')).n∧∀ u∈b.cells,bnd (h.set pb (psB L tb cap st')).n u:=by
 refine ⟨Nat.le_refl _,hv,fun i b hb=>?_⟩
 have hb:(if i=pb then some (psB L tb cap st') else h.m i)=some b:=hb
 by_cases e:i=pb
 ·rw [if_pos e] at hb
  injection hb with hb
  subst hb;subst e
  refine ⟨s.dom _ _ p.par,fun u hu=>?_⟩
  have h0:=s.bd _ _ p.par
  have hu:u∈psC L tb cap st':=by simpa [psB] using hu
  simp only [psC,List.mem_cons,List.not_mem_nil,or_false] at hu
  rcases hu with rfl|rfl|rfl|rfl|rfl|rfl
  ·exact h0 _ (by simp [psC])
  all_goals (show bnd h.n (.int _ _);simp)
 ·rw [if_neg e] at hb
  exact ⟨s.dom _ _ hb,s.bd _ _ hb⟩
theorem tokN_pos {L:List TokS} (hL:ToksOK L) {i:Nat}:∃ j,j < L.length∧j=min i (L.length - 1)∧L[j]?=some (tokN L i):=⟨_,by have:=hL.pos;omega,rfl,tokN_get hL i⟩
instance:FOne Tryz.prog 102 0 0:=⟨by kernel_rfl⟩
instance:FOne Tryz.prog 102 1 1:=⟨by kernel_rfl⟩
instance:FOne Tryz.prog 102 2 2:=⟨by kernel_rfl⟩
theorem ok_tf (p:ParAt L tb cap pb h st) {b:Bool} (hb:decide (st.fk=0)=b):TF Tryz.prog 30 ⟨[ptrC pb]⟩ h (.bool b) h:=by
 refine TF.exact (fn:=Tryz.f30) (c:=(Tryz.f30.body.getD .skip)) Tryz.func30 (by kernel_rfl) Tryz.ntmps30 (by kernel_rfl) (fun s0=>⟨Nat.le_refl _,by simp,fun i b hb=>⟨s0.dom i b hb,s0.bd i b hb⟩⟩) fun π s0=>?_
 conv=>arg 2;whnf
 have pn:=s0.dom _ _ p.par
 by_cases hf:st.fk=0
 ·obtain rfl:b=true:=by rw [← hb,decide_eq_true hf]
  repeat (first|refine Y1f ?_|refine Y8 ?_|refine Y6 ?_|refine Y0 ?_|refine Yq ?_|refine Y1 ?_)
  exact endsK_ret _ (.cons (.tmp rfl) .nil) fun B' a=>⟨rfl,a.up⟩
 ·obtain rfl:b=false:=by rw [← hb,decide_eq_false hf]
  repeat (first|refine Y1f ?_|refine Y8 ?_|refine Y4 ?_|refine Y0 ?_|refine Yq ?_|refine Y1 ?_)
  exact endsK_ret _ (.cons (.tmp rfl) .nil) fun B' a=>⟨rfl,a.up⟩
theorem ahead_tf (hL:ToksOK L) (p:ParAt L tb cap pb h st) (n:Nat) (hn:n≤10):TF Tryz.prog 57 ⟨[ptrC pb,.int .i64 n]⟩ h (.agg ⟨tokC (tokN L (st.at_+n))⟩) h:=by
 refine TF.exact (fn:=Tryz.f57) (c:=(Tryz.f57.body.getD .skip)) Tryz.func57 (by kernel_rfl) Tryz.ntmps57 (by kernel_rfl) (fun s0=>⟨Nat.le_refl _,by simp [tokC],fun i b hb=>⟨s0.dom i b hb,s0.bd i b hb⟩⟩) fun π s0=>?_
 conv=>arg 2;whnf
 have pn:=s0.dom _ _ p.par
 have tn:=s0.dom _ _ p.tok
 have hfa:=p.fits.a
 have hl0:=hL.pos
 have hl1:=hL.le
 obtain ⟨j,hjl,hj,hjt⟩:=tokN_pos hL (i:=st.at_+n)
 have htl:0+j * 6+6≤(toksC L).length:=by rw [toksC_length];omega
 repeat (first|refine Y1f ?_|((with_reducible apply RS.minN);iterate 4 exact rfl)|((with_reducible apply RS.indexAddrS);(iterate 4 exact rfl);exact congrArg Int.ofNat hj.symm;exact hjl)|((with_reducible apply RS.loadNB);(iterate 3 exact rfl);exact p.tok;exact tn;exact htl;exact toksC_take hjt)|refine Yy ?_|((with_reducible apply RS.sub1);(iterate 4 exact rfl);omega)|((with_reducible apply RS.addNat);(iterate 4 exact rfl);omega)|refine Y2 ?_|refine Y9 ?_|refine Y0 ?_|refine Yq ?_|refine Y1 ?_)
 exact endsK_ret _ (.cons (.cellN rfl rfl rfl (Nat.le_of_ble_eq_true rfl)) .nil) fun B' a=>⟨rfl,a.up⟩
theorem tok_tf (hL:ToksOK L) (p:ParAt L tb cap pb h st):TF Tryz.prog 31 ⟨[ptrC pb]⟩ h (.agg ⟨tokC (st.tok (tokN L))⟩) h:=by
 refine TF.exact (fn:=Tryz.f31) (c:=(Tryz.f31.body.getD .skip)) Tryz.func31 (by kernel_rfl) Tryz.ntmps31 (by kernel_rfl) (fun s0=>⟨Nat.le_refl _,by simp [tokC],fun i b hb=>⟨s0.dom i b hb,s0.bd i b hb⟩⟩) fun π s0=>?_
 conv=>arg 2;whnf
 repeat (first|((with_reducible apply (RS.callA (g0:=57)));(iterate 3 exact rfl);exact fun B' hB'=>ahead_tf hL (p.off ⟨hB'.le,hB'.old⟩ s0.dom) 0 (by decide))|refine Y11 ?_|refine Y2 ?_|refine Y9 ?_|refine Y0 ?_|refine Yq ?_|refine Y1 ?_)
 exact endsK_ret _ (.cons (.cellN rfl rfl rfl (Nat.le_of_ble_eq_true rfl)) .nil) fun B' a=>⟨rfl,a.up⟩
theorem par_same (p:ParAt L tb cap pb h st) {i:Nat} {b:Blk} (hb:(h.set pb (psB L tb cap st)).m i=some b):h.m i=some b:=by
 have hb:(if i=pb then some (psB L tb cap st) else h.m i)=some b:=hb
 by_cases e:i=pb
 ·rw [if_pos e] at hb;rw [e,← hb];exact p.par
 ·rw [if_neg e] at hb;exact hb
theorem fail_tf (hL:ToksOK L) (p:ParAt L tb cap pb h st) (k:Nat):TF Tryz.prog 59 ⟨[ptrC pb,.int .i64 k]⟩ h (.tuple ⟨[]⟩) (h.set pb (psB L tb cap (st.fail (tokN L) k))):=by
 refine TF.exact (fn:=Tryz.f59) (c:=(Tryz.f59.body.getD .skip)) Tryz.func59 (by kernel_rfl) Tryz.ntmps59 (by kernel_rfl) (fun s0=>(par_set p _ (by simp) s0)) fun π s0=>?_
 conv=>arg 2;whnf
 have pn:=s0.dom _ _ p.par
 by_cases hf:st.fk=0
 ·have e:st.fail (tokN L) k={ st with fk:=k,fa:=(st.tok (tokN L)).pos }:=if_pos hf
  rw [e]
  repeat (first|refine Y2u ?_|refine Y1k ?_|refine Y2r ?_|refine Y2f ?_|refine Yf ?_|refine Ya ?_|refine Y0 ?_|refine Y1x ?_|refine Y1 ?_|refine Y5 ?_)
  exact endsK_normal _ .nil fun B' a=>⟨rfl,a.up⟩
 ·have e:st.fail (tokN L) k=st:=if_neg hf
  rw [e]
  repeat (first|refine Y3d ?_|refine Y11 ?_|refine Y0 ?_|refine Y1d ?_|refine Y1 ?_|refine Y3 ?_)
  exact endsK_normal _ .nil fun B' a=>⟨rfl,fun i b hb=>a.up i b (par_same p hb)⟩
theorem fault0_tf (p:ParAt L tb cap pb h st) (k q:Nat):TF Tryz.prog 65 ⟨[ptrC pb,.int .i64 k,.int .i64 q]⟩ h (.tuple ⟨[]⟩) (h.set pb (psB L tb cap (st.fail0 k q))):=by
 refine TF.exact (fn:=Tryz.f65) (c:=(Tryz.f65.body.getD .skip)) Tryz.func65 (by kernel_rfl) Tryz.ntmps65 (by kernel_rfl) (fun s0=>(par_set p _ (by simp) s0)) fun π s0=>?_
 conv=>arg 2;whnf
 have pn:=s0.dom _ _ p.par
 by_cases hf:st.fk=0
 ·have e:st.fail0 k q={ st with fk:=k,fa:=q }:=if_pos hf
  rw [e]
  repeat (first|refine Y1k ?_|refine Y2f ?_|refine Yf ?_|refine Ya ?_|refine Y0 ?_|refine Y1x ?_|refine Y1 ?_|refine Y5 ?_)
  exact endsK_normal _ .nil fun B' a=>⟨rfl,a.up⟩
 ·have e:st.fail0 k q=st:=if_neg hf
  rw [e]
  repeat (first|refine Y3d ?_|refine Y11 ?_|refine Y0 ?_|refine Y1d ?_|refine Y1 ?_|refine Y3 ?_)
  exact endsK_normal _ .nil fun B' a=>⟨rfl,fun i b hb=>a.up i b (par_same p hb)⟩
theorem is_tf (hL:ToksOK L) (p:ParAt L tb cap pb h st) (s:ByteArray) {b:Bool} (hb:st.is (tokN L) s=b):TF Tryz.prog 60 ⟨[ptrC pb,.string s]⟩ h (.bool b) h:=by
 refine TF.exact (fn:=Tryz.f60) (c:=(Tryz.f60.body.getD .skip)) Tryz.func60 (by kernel_rfl) Tryz.ntmps60 (by kernel_rfl) (fun s0=>⟨Nat.le_refl _,by simp,fun i b hb=>⟨s0.dom i b hb,s0.bd i b hb⟩⟩) fun π s0=>?_
 conv=>arg 2;whnf
 unfold PS.is wordy at hb
 by_cases h4:(st.tok (tokN L)).kind=4
 ·repeat (first|refine Y2r ?_|refine Yu ?_|refine Yd ?_|refine Y6 ?_|refine Y2v ?_|refine Yh ?_|refine Y2 ?_|refine Y9 ?_|refine Yk ?_|refine Y0 ?_|refine Yq ?_|refine Y1 ?_)
  refine endsK_ret _ (.cons (.tmp rfl) .nil) fun B' a=>⟨?_,a.up⟩
  rw [← hb,h4];rfl
 ·by_cases h2:(st.tok (tokN L)).kind=2
  ·repeat (first|refine Y2r ?_|refine Yu ?_|refine Yd ?_|refine Yc ?_|refine Y6 ?_|refine Y4 ?_|refine Y2v ?_|refine Yh ?_|refine Y2 ?_|refine Y9 ?_|refine Y0 ?_|refine Yq ?_|refine Y1 ?_)
   refine endsK_ret _ (.cons (.tmp rfl) .nil) fun B' a=>⟨?_,a.up⟩
   rw [← hb,h2];rfl
  ·repeat (first|refine Y2r ?_|refine Yu ?_|refine Yc ?_|refine Y4 ?_|refine Yh ?_|refine Y2 ?_|refine Y9 ?_|refine Yk ?_|refine Y0 ?_|refine Yq ?_|refine Y1 ?_)
   refine endsK_ret _ (.cons (.tmp rfl) .nil) fun B' a=>⟨?_,a.up⟩
   rw [← hb,show ((st.tok (tokN L)).kind == 4)=false by simpa using h4,show ((st.tok (tokN L)).kind == 2)=false by simpa using h2];rfl
theorem take_tf (hL:ToksOK L) (p:ParAt L tb cap pb h st) (s:ByteArray) {b:Bool} {t:PS} (ht:st.take (tokN L) s=some (b,t)):TF Tryz.prog 66 ⟨[ptrC pb,.string s]⟩ h (.bool b) (h.set pb (psB L tb cap t)):=by
 refine TF.exact (fn:=Tryz.f66) (c:=(Tryz.f66.body.getD .skip)) Tryz.func66 (by kernel_rfl) Tryz.ntmps66 (by kernel_rfl) (fun s0=>(par_set p _ (by simp) s0)) fun π s0=>?_
 conv=>arg 2;whnf
 have pn:=s0.dom _ _ p.par
 rcases take_iff ht with ⟨rfl,hf,his,hadv⟩|⟨rfl,rfl,hn⟩
 ·obtain ⟨ha,rfl⟩:=adv_iff hadv
  repeat (first|refine Y1f ?_|refine Y1k ?_|refine Y2f ?_|refine Y5c ?_|refine Y8 ?_|refine Yd ?_|refine Yp ?_|refine Y0 ?_|refine Y13 ?_|refine Y1 ?_|refine Y5 ?_)
  exact endsK_ret _ (.cons (.tmp rfl) .nil) fun B' a=>⟨rfl,a.up⟩
 ·by_cases hf:t.fk=0
  ·have his:t.is (tokN L) s=false:=by
    cases hc:t.is (tokN L) s with
    | false=>rfl
    | true=>exact absurd ⟨hf,hc⟩ hn
   repeat (first|refine Y2f ?_|refine Y5c ?_|refine Y7 ?_|refine Yd ?_|refine Y0 ?_|refine Yv ?_|refine Y1 ?_|refine Y3 ?_)
   exact endsK_ret _ (.cons (.tmp rfl) .nil) fun B' a=>⟨rfl,fun i b hb=>a.up i b (par_same p hb)⟩
  ·repeat (first|refine Y3d ?_|refine Y7 ?_|refine Yc ?_|refine Yk ?_|refine Y0 ?_|refine Yv ?_|refine Y1 ?_|refine Y3 ?_)
   exact endsK_ret _ (.cons (.tmp rfl) .nil) fun B' a=>⟨rfl,fun i b hb=>a.up i b (par_same p hb)⟩
def StepQ (L:List TokS) (tb cap pb:Nat) (h:Hp) (v0:Value) (t:PS) (v:Value) (h':Hp):Prop:=v=v0∧ParAt L tb cap pb h' t∧OffP pb h h'
theorem TF.step {g:FuncId} {args:List Value} {v:Value} {t:PS} (p:ParAt L tb cap pb h st) (f:t.Fits) (ht:TF Tryz.prog g ⟨args⟩ h v (h.set pb (psB L tb cap t))):EX Tryz.prog g args h (StepQ L tb cap pb h v t) :=
 (TF.ex ht).mono fun v1 h1 _ ⟨e1,e2⟩=>⟨e1,by rw [e2];exact p.set f,by rw [e2];exact OffP.set h _⟩
theorem take_ex (hL:ToksOK L) (p:ParAt L tb cap pb h st) (s:ByteArray) {b:Bool} {t:PS} (ht:st.take (tokN L) s=some (b,t)):EX Tryz.prog 66 [ptrC pb,.string s] h (StepQ L tb cap pb h (.bool b) t):=TF.step p (p.fits.take ht) (take_tf hL p s ht)
theorem fail_ex (hL:ToksOK L) (p:ParAt L tb cap pb h st) (k:Nat):EX Tryz.prog 59 [ptrC pb,.int .i64 k] h (StepQ L tb cap pb h (.tuple ⟨[]⟩) (st.fail (tokN L) k)):=TF.step p (p.fits.fail k) (fail_tf hL p k)
theorem fault0_ex (p:ParAt L tb cap pb h st) (k q:Nat):EX Tryz.prog 65 [ptrC pb,.int .i64 k,.int .i64 q] h (StepQ L tb cap pb h (.tuple ⟨[]⟩) (st.fail0 k q)):=TF.step p (p.fits.fail0 k q) (fault0_tf p k q)
end
end Go.Proofs.YtgpigfcagppohaaGreatDoor
