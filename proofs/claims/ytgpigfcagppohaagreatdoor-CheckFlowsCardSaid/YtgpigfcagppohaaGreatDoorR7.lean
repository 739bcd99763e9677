/-
  What the functions that the law reaches compute,told by plain data;it holds of programs that pass the check of right form and are light.
-/
import Derived.Test.YtgpigfcagppohaaGreatDoorR6
set_option linter.unusedVariables false
set_option linter.unusedSimpArgs false
namespace Go.Proofs.YtgpigfcagppohaaGreatDoor
open Go.AH
attribute [local irreducible] W RS
theorem OffP.keep {pb:Nat} {G B:Hp} (o:OffP pb G B) {i:Nat} {b:Blk} (h:G.m i=some b) (hd:i < G.n) (hn:i≠pb):B.m i=some b:=by rw [o.2 i hd hn];exact h
theorem OffP.abs {P:Program} {pb:Nat} {h B B':Hp} {π:Nat→Nat} {k:Nat} {l:List (Nat × Option Blk)} (o:OffP pb h B) (a:Absb (P:=P) ⟨B,π,k,l⟩ B'):OffP pb h B':=o.trans (Old.off ⟨a.le,a.old⟩)
section
variable {L:List TokS} {tb cap pb:Nat} {h:Hp} {st:PS}
theorem ParAt.abs {P:Program} {B B':Hp} {π:Nat→Nat} {k:Nat} {l:List (Nat × Option Blk)} (p:ParAt L tb cap pb B st) (s:Sat P B) (a:Absb (P:=P) ⟨B,π,k,l⟩ B'):ParAt L tb cap pb B' st:=p.off ⟨a.le,a.old⟩ s.dom
theorem ParAt.stored {st':PS} {B':Hp} {π:Nat→Nat} {k:Nat} {l:List (Nat × Option Blk)} (p:ParAt L tb cap pb h st) (f:st'.Fits) (sp:Sat Tryz.prog h) (a:Absb (P:=Tryz.prog) ⟨h.set pb (psB L tb cap st'),π,k,l⟩ B'):ParAt L tb cap pb B' st'∧OffP pb h B' :=
 ⟨(p.set f).off ⟨a.le,a.old⟩ (fun i b hb=>(par_set p _ (v:=.bool true) (by simp) sp).2.2 i b hb |>.1),(OffP.set h _).trans (Old.off ⟨a.le,a.old⟩)⟩
instance:FOne Tryz.prog 102 0 0:=⟨by kernel_rfl⟩
theorem want_ex (hL:ToksOK L) (p:ParAt L tb cap pb h st) (s:ByteArray) {t:PS} (ht:st.want (tokN L) s=some t):EX Tryz.prog 68 [ptrC pb,.string s] h (StepQ L tb cap pb h (.tuple ⟨[]⟩) t):=by
 refine EX.intro (fn:=Tryz.f68) (c:=(Tryz.f68.body.getD .skip)) Tryz.func68 (by kernel_rfl) Tryz.ntmps68 (by kernel_rfl) fun π s0=>?_
 conv=>arg 2;whnf
 have sp:=s0
 have o:=OffP.refl pb h
 obtain ⟨b,u,htk,hc⟩:=want_iff ht
 rcases hc with ⟨rfl,rfl⟩|⟨rfl,rfl⟩
 ·repeat (first|((with_reducible apply (RS.callEx (g0:=66)));(iterate 3 exact rfl);intro B1 hB1;refine ⟨_,take_ex hL (p.abs sp hB1) _ htk,?_⟩;rintro v H1 π1 ⟨rfl,p',o'⟩ sp' hle1;have o:=(o.abs hB1).trans o';have p:=p';have sp:=sp')|refine Y25 ?_|refine Y0 ?_|refine Y1d ?_|refine Y1 ?_|refine Y3 ?_)
  exact endsK_normal _ .nil fun B' a=>⟨rfl,p.abs sp a,o.abs a⟩
 ·repeat (first|((with_reducible apply (RS.callEx (g0:=66)));(iterate 3 exact rfl);intro B1 hB1;refine ⟨_,take_ex hL (p.abs sp hB1) _ htk,?_⟩;rintro v H1 π1 ⟨rfl,p',o'⟩ sp' hle1;have o:=(o.abs hB1).trans o';have p:=p';have sp:=sp')|((with_reducible apply (RS.callEx (g0:=59)));(iterate 3 exact rfl);intro B1 hB1;refine ⟨_,fail_ex hL (p.abs sp hB1) 11,?_⟩;rintro v H1 π1 ⟨rfl,p',o'⟩ sp' hle1;have o:=(o.abs hB1).trans o';have p:=p';have sp:=sp')|refine Y25 ?_|refine Y0 ?_|refine Y1x ?_|refine Y1 ?_|refine Y5 ?_)
  exact endsK_normal _ .nil fun B' a=>⟨rfl,p.abs sp a,o.abs a⟩
theorem name_ex (hL:ToksOK L) (p:ParAt L tb cap pb h st) {x:ByteArray} {t:PS} (ht:st.name (tokN L)=some (x,t)):EX Tryz.prog 107 [ptrC pb] h (StepQ L tb cap pb h (.string x) t):=by
 refine EX.intro (fn:=Tryz.f107) (c:=(Tryz.f107.body.getD .skip)) Tryz.func107 (by kernel_rfl) Tryz.ntmps107 (by kernel_rfl) fun π s0=>?_
 conv=>arg 2;whnf
 have sp:=s0
 have o:=OffP.refl pb h
 have pn:=sp.dom _ _ p.par
 unfold PS.name at ht
 by_cases hf:st.fk=0
 ·by_cases hk:(st.tok (tokN L)).kind=1
  ·rw [if_pos ⟨hf,hk⟩] at ht
   obtain ⟨u,h1,h2⟩:=Option.map_eq_some_iff.1 ht
   injection h2 with h3 h4
   subst h3;subst h4
   obtain ⟨ha,rfl⟩:=adv_iff h1
   repeat (first|refine Y1f ?_|refine Y1k ?_|refine Y2n ?_|refine Y5p ?_|refine Yl ?_|refine Yc ?_|refine Y4 ?_|refine Yp ?_|refine Yh ?_|refine Y2 ?_|refine Y9 ?_|refine Y0 ?_|refine Yv ?_|refine Y1 ?_|refine Y3 ?_)
   exact endsK_ret _ (.cons (.tmp rfl) .nil) fun B' a=>⟨rfl,(p.set (p.fits.adv h1)).off ⟨a.le,a.old⟩ (fun i b hb=>(par_set p _ (v:=.bool true) (by simp) sp).2.2 i b hb |>.1),(OffP.set h _).trans (Old.off ⟨a.le,a.old⟩)⟩
  ·rw [if_neg (fun hc=>hk hc.2)] at ht
   injection ht with ht;injection ht with h3 h4
   subst h3;subst h4
   repeat (first|refine Y2n ?_|refine Y5p ?_|((with_reducible apply (RS.callEx (g0:=59)));(iterate 3 exact rfl);intro B1 hB1;refine ⟨_,fail_ex hL (p.abs sp hB1) 11,?_⟩;rintro v H1 π1 ⟨rfl,p',o'⟩ sp' hle1;have o:=(o.abs hB1).trans o';have p:=p';have sp:=sp')|refine Y2o ?_|refine Yc ?_|refine Y6 ?_|refine Yh ?_|refine Y2 ?_|refine Y9 ?_|refine Y0 ?_|refine Y13 ?_|refine Y1 ?_|refine Y5 ?_)
   exact endsK_ret _ (.cons (.tmp rfl) .nil) fun B' a=>⟨rfl,p.abs sp a,o.abs a⟩
 ·rw [if_neg (fun hc=>hf hc.1)] at ht
  injection ht with ht;injection ht with h3 h4
  subst h3;subst h4
  repeat (first|refine Y2n ?_|((with_reducible apply (RS.callA (g0:=30)));(iterate 3 exact rfl);exact fun B' hB'=>ok_tf (p.abs sp hB') (decide_eq_false hf))|((with_reducible apply (RS.callEx (g0:=59)));(iterate 3 exact rfl);intro B1 hB1;refine ⟨_,fail_ex hL (p.abs sp hB1) 11,?_⟩;rintro v H1 π1 ⟨rfl,p',o'⟩ sp' hle1;have o:=(o.abs hB1).trans o';have p:=p';have sp:=sp')|refine Y1o ?_|refine Yd ?_|refine Y2 ?_|refine Y9 ?_|refine Yk ?_|refine Y0 ?_|refine Y13 ?_|refine Y1 ?_|refine Y5 ?_)
  exact endsK_ret _ (.cons (.tmp rfl) .nil) fun B' a=>⟨rfl,p.abs sp a,o.abs a⟩
theorem down_iff {st t:PS} (ht:st.down (tokN L)=some t):∃ u:PS,u={ st with deep:=st.deep+1 }∧u.Fits=u.Fits∧st.deep < 1000000∧((60 < u.deep∧t=u.fail (tokN L) 3)∨(¬ 60 < u.deep∧t=u)):=by
 unfold PS.down at ht
 split at ht
 ·rename_i hd
  injection ht with ht
  refine ⟨_,rfl,rfl,hd,?_⟩
  split at ht
  ·rename_i h6;exact .inl ⟨h6,ht.symm⟩
  ·rename_i h6;exact .inr ⟨h6,ht.symm⟩
 ·cases ht
theorem down_ex (hL:ToksOK L) (p:ParAt L tb cap pb h st) {t:PS} (ht:st.down (tokN L)=some t):EX Tryz.prog 114 [ptrC pb] h (StepQ L tb cap pb h (.bool (decide (t.fk=0))) t):=by
 refine EX.intro (fn:=Tryz.f114) (c:=(Tryz.f114.body.getD .skip)) Tryz.func114 (by kernel_rfl) Tryz.ntmps114 (by kernel_rfl) fun π s0=>?_
 conv=>arg 2;whnf
 have sp:=s0
 have pn:=sp.dom _ _ p.par
 have hfd:=p.fits.d
 obtain ⟨u,hu,_,hd,hc⟩:=down_iff ht
 have hub:u.Fits:=by rw [hu];exact ⟨p.fits.a,by show st.deep+1≤_;omega,p.fits.n⟩
 ((with_reducible apply W.seq);repeat (first|refine Yw ?_|refine Y0 ?_|refine Y1 ?_|refine Ym ?_))
 ((with_reducible apply W.seq);repeat (fail))
 ((with_reducible apply W.seq);repeat (first|refine Y1f ?_|refine Y1k ?_|refine Yf ?_|refine Yp ?_|refine Y0 ?_|refine Y1 ?_|refine Ym ?_))
 refine W.absorbX fun B π1 a=>?_
 obtain ⟨p,o⟩:=p.stored (st':=u) hub sp (by rw [hu];exact a)
 have sp:=a.sat
 have pn:=sp.dom _ _ p.par
 clear hu
 rcases hc with ⟨h6,rfl⟩|⟨h6,rfl⟩
 ·repeat (first|refine Y1f ?_|((with_reducible apply (RS.callEx (g0:=59)));(iterate 3 exact rfl);intro B1 hB1;refine ⟨_,fail_ex hL (p.abs sp hB1) 3,?_⟩;rintro v H1 π1 ⟨rfl,p',o'⟩ sp' hle1;have o:=(o.abs hB1).trans o';have p:=p';have sp:=sp')|refine Y6e ?_|refine Y8 ?_|refine Y6 ?_|refine Y0 ?_|refine Yq ?_|refine Y1 ?_|refine Y5 ?_)
  exact endsK_ret _ (.cons (.tmp rfl) .nil) fun B' a=>⟨rfl,p.abs sp a,o.abs a⟩
 ·repeat (first|refine Y1f ?_|refine Y6e ?_|refine Y8 ?_|refine Y4 ?_|refine Y0 ?_|refine Yv ?_|refine Y1 ?_|refine Y3 ?_)
  exact endsK_ret _ (.cons (.tmp rfl) .nil) fun B' a=>⟨rfl,p.abs sp a,o.abs a⟩
theorem up_iff {st t:PS} (ht:st.up=some t):0 < st.deep∧t={ st with deep:=st.deep - 1 }:=by
 unfold PS.up at ht
 split at ht
 ·injection ht with ht;exact ⟨by assumption,ht.symm⟩
 ·cases ht
theorem up_exd (p:ParAt L tb cap pb h st) {t:PS} (ht:st.up=some t):EXD Tryz.prog 113 [ptrC pb] h (fun h'=>ParAt L tb cap pb h' t∧OffP pb h h'):=by
 refine EXD.intro (fn:=Tryz.f113) (c:=(Tryz.f113.body.getD .skip)) Tryz.func113 (by kernel_rfl) Tryz.ntmps113 (by kernel_rfl) fun π s0=>?_
 conv=>arg 2;whnf
 have sp:=s0
 have pn:=sp.dom _ _ p.par
 obtain ⟨hd,hu⟩:=up_iff ht
 have hdd:=p.fits.d
 repeat (first|refine Y1f ?_|refine Y1k ?_|refine Yf ?_|((with_reducible apply RS.sub1);(iterate 4 exact rfl);omega)|refine Y0 ?_|refine Y1 ?_)
 exact endsK_normal _ .nil fun B' a=>p.stored (st':=t) (p.fits.up ht) sp (by rw [hu];exact a)
theorem node_ex (hL:ToksOK L) (p:ParAt L tb cap pb h st) {t:PS} (ht:st.node (tokN L)=some t):EX Tryz.prog 112 [ptrC pb] h (StepQ L tb cap pb h (.tuple ⟨[]⟩) t):=by
 refine EX.intro (fn:=Tryz.f112) (c:=(Tryz.f112.body.getD .skip)) Tryz.func112 (by kernel_rfl) Tryz.ntmps112 (by kernel_rfl) fun π s0=>?_
 conv=>arg 2;whnf
 have sp:=s0
 have pn:=sp.dom _ _ p.par
 have hfd:=p.fits.n
 unfold PS.node at ht
 split at ht
 case isFalse=>cases ht
 rename_i hd
 injection ht with ht
 obtain ⟨u,hu⟩:∃ u:PS,u={ st with nodes:=st.nodes+1 }:=⟨_,rfl⟩
 rw [← hu] at ht
 have hub:u.Fits:=by rw [hu];exact ⟨p.fits.a,p.fits.d,by show st.nodes+1≤_;omega⟩
 have hun:u.nodes=st.nodes+1:=by rw [hu]
 ((with_reducible apply W.seq);repeat (first|refine Y1f ?_|refine Y1k ?_|refine Yf ?_|refine Yp ?_|refine Y0 ?_|refine Y1 ?_|refine Ym ?_))
 refine W.absorbX fun B π1 a=>?_
 obtain ⟨p,o⟩:=p.stored (st':=u) hub sp (by rw [hu];exact a)
 have sp:=a.sat
 have pn:=sp.dom _ _ p.par
 by_cases h6:6000 < st.nodes+1
 ·rw [if_pos h6] at ht
  subst ht
  repeat (first|refine Y1f ?_|((with_reducible apply (RS.callEx (g0:=59)));(iterate 3 exact rfl);intro B1 hB1;refine ⟨_,fail_ex hL (p.abs sp hB1) 2,?_⟩;rintro v H1 π1 ⟨rfl,p',o'⟩ sp' hle1;have o:=(o.abs hB1).trans o';have p:=p';have sp:=sp')|refine Yf ?_|refine Y6 ?_|refine Y0 ?_|refine Y1x ?_|refine Y1 ?_|refine Y5 ?_)
  exact endsK_normal _ .nil fun B' a=>⟨rfl,p.abs sp a,o.abs a⟩
 ·rw [if_neg h6] at ht
  subst ht
  repeat (first|refine Y1f ?_|refine Yf ?_|refine Y4 ?_|refine Y0 ?_|refine Y1d ?_|refine Y1 ?_|refine Y3 ?_)
  exact endsK_normal _ .nil fun B' a=>⟨rfl,p.abs sp a,o.abs a⟩
def NewE (L:List TokS) (tb cap pb:Nat) (h:Hp) (cs:List Value) (t:PS) (v:Value) (h':Hp):Prop:=∃ b,v=ptrC b∧h.n≤b∧h'.m b=some ⟨⟨cs⟩,232⟩∧ParAt L tb cap pb h' t∧OffP pb h h'
theorem expr_ex (hL:ToksOK L) (p:ParAt L tb cap pb h st) (op pos:Nat) (text:ByteArray) (A:Option Addr) (n c:Nat) {t:PS} (ht:st.node (tokN L)=some t):EX Tryz.prog 152 [ptrC pb,.int .i64 op,.int .i64 pos,.string text,.slice A n c] h (NewE L tb cap pb h (exprC op pos text zeroTok zeroType none 0 A n c) t):=by
 refine EX.intro (fn:=Tryz.f152) (c:=(Tryz.f152.body.getD .skip)) Tryz.func152 (by kernel_rfl) Tryz.ntmps152 (by kernel_rfl) fun π s0=>?_
 conv=>arg 2;whnf
 have sp:=s0
 have o:=OffP.refl pb h
 repeat (first|((with_reducible apply (RS.callEx (g0:=112)));(iterate 3 exact rfl);intro B1 hB1;refine ⟨_,node_ex hL (p.abs sp hB1) ht,?_⟩;rintro v H1 π1 ⟨rfl,p',o'⟩ sp' hle1;have o:=(o.abs hB1).trans o';have p:=p';have sp:=sp')|refine Y3a ?_|refine Ya ?_|refine Y0 ?_|refine Yq ?_|refine Y1 ?_)
 exact endsK_ret _ (.cons (.tmp rfl) .nil) fun B' a=>⟨_,rfl,Nat.le_trans o.1 (a.lo 0 (Nat.lt_succ_self 0)),a.loc 0 (Nat.lt_succ_self 0),p.abs sp a,o.abs a⟩
theorem typed_tf (hL:ToksOK L) (p:ParAt L tb cap pb h st) {b:Bool} (hb:typedT (st.tok (tokN L))=b):TF Tryz.prog 58 ⟨[ptrC pb]⟩ h (.bool b) h:=by
 refine TF.exact (fn:=Tryz.f58) (c:=(Tryz.f58.body.getD .skip)) Tryz.func58 (by kernel_rfl) Tryz.ntmps58 (by kernel_rfl) (fun s0=>⟨Nat.le_refl _,by simp,fun i b hb=>⟨s0.dom i b hb,s0.bd i b hb⟩⟩) fun π s0=>?_
 conv=>arg 2;whnf
 have sp:=s0
 unfold typedT at hb
 by_cases hk:(st.tok (tokN L)).kind=2
 ·have hb:typeWords.any (fun w=>eqB (st.tok (tokN L)).text w)=b:=by rw [← hb,hk];rfl
  simp only [typeWords,List.any_cons,List.any_nil,Bool.or_false] at hb
  repeat' (first|refine Y2u ?_|refine Y2n ?_|refine Y7 ?_|refine Y4 ?_|refine Y2v ?_|refine Y0 ?_|refine Y1m ?_|refine Y1 ?_|refine Y5 ?_|refine Y3 ?_|((refine YD ?_ ?_)<;>intro _)|((refine YG ?_ ?_)<;>intro _)|((refine YC ?_ ?_)<;>intro _)|((refine YN ?_ ?_)<;>intro _))
  all_goals
   refine endsK_ret _ (.cons (.tmp rfl) .nil) fun B' a=>⟨?_,a.up⟩
   rw [← hb]
   show Value.bool _=_
   congr 1
   symm
   simp [eqB,bChar,bShort,bInt,bLong,bUns,bSig,bVoid,bStruct,bSecret,bPublic] at *
   simp [*]
 ·have hb:false=b:=by rw [← hb,show ((st.tok (tokN L)).kind == 2)=false by simpa using hk];rfl
  subst hb
  repeat (first|refine Y2u ?_|refine Y2n ?_|refine Y7 ?_|refine Y6 ?_|refine Y0 ?_|refine Y13 ?_|refine Y1 ?_|refine Y5 ?_)
  exact endsK_ret _ (.cons (.tmp rfl) .nil) fun B' a=>⟨rfl,a.up⟩
theorem level_tf (s:ByteArray) (h:Hp):TF Tryz.prog 171 ⟨[.string s]⟩ h (.int .i64 (levelS s)) h:=by
 refine TF.exact (fn:=Tryz.f171) (c:=(Tryz.f171.body.getD .skip)) Tryz.func171 (by kernel_rfl) Tryz.ntmps171 (by kernel_rfl) (fun s0=>⟨Nat.le_refl _,by simp,fun i b hb=>⟨s0.dom i b hb,s0.bd i b hb⟩⟩) fun π s0=>?_
 conv=>arg 2;whnf
 repeat' (first|refine Y7 ?_|refine Y2v ?_|refine Y0 ?_|refine Y1m ?_|refine Y1 ?_|refine Y5 ?_|((refine YD ?_ ?_)<;>intro _)|((refine YG ?_ ?_)<;>intro _)|((refine YC ?_ ?_)<;>intro _)|((refine YN ?_ ?_)<;>intro _))
 all_goals
  refine endsK_ret _ (.cons (.tmp rfl) .nil) fun B' a=>⟨?_,a.up⟩
  show Value.int .i64 _=_
  congr 1
  symm
  simp [levelS,eqB,b1,b2] at *
  simp [*]
end
end Go.Proofs.YtgpigfcagppohaaGreatDoor
