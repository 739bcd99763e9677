/-
  What the functions that the law reaches compute,told by plain data;it holds of programs that pass the check of right form and are light.
-/
import Derived.Test.YtbmmchaaiakanaaDoorR1
import Derived.Test.YtbmmchaaiakanaaDoorS1
import Derived.Test.YtbmmchaaiakanaaDoorS2
set_option linter.unusedVariables false
set_option linter.unusedSimpArgs false
namespace Go.Proofs.YtbmmchaaiakanaaDoor
open Go.AH
attribute [local irreducible] W RS
theorem prefix_take (l p:List UInt8):Lib.hasPrefix l p=(decide (p.length≤l.length) && (l.take p.length == p)):=by
 unfold Lib.hasPrefix
 rw [Bool.eq_iff_iff,List.isPrefixOf_iff_prefix,List.prefix_iff_eq_take]
 simp only [Bool.and_eq_true,decide_eq_true_eq,beq_iff_eq]
 constructor
 ·intro h
  refine ⟨?_,h.symm⟩
  have:=congrArg List.length h
  simp at this;omega
 ·intro h;exact h.2.symm
theorem lite_tf (s p:ByteArray) (h:Hp):TF Tryd.prog 45 ⟨[.string s,.string p]⟩ h (.bool (Lib.hasPrefix s.data.toList p.data.toList)) h:=by
 refine TF.still (fn:=Tryd.f45) (c:=(Tryd.f45.body.getD .skip)) Tryd.func45 (by kernel_rfl) Tryd.ntmps45 (by kernel_rfl) (by simp) ?_
 conv=>arg 2;whnf
 repeat' (first|refine Yj ?_|refine Y4 ?_|refine Yb ?_|refine Yd ?_|refine Y1z ?_|refine Y20 ?_|refine Yr ?_|refine Yn ?_|refine Y0 ?_|refine Yz ?_|refine Y1 ?_|((refine YD ?_ ?_)<;>intro _)|((refine YG ?_ ?_)<;>intro _)|((refine YC ?_ ?_)<;>intro _)|((refine YN ?_ ?_)<;>intro _))
 all_goals refine endsK_ret _ (.cons (.tmp rfl) .nil) ⟨rfl,?_⟩
 all_goals simp only [resultOf,Value.bool.injEq,prefix_take]
 ·rename_i hp
  have h1:p.data.toList.length=p.size:=by simp
  have h2:s.data.toList.length=s.size:=by simp
  rw [h1,h2,decide_eq_true hp]
  rw [Lib.extract_data];simp
 ·rename_i hp
  have h1:p.data.toList.length=p.size:=by simp
  have h2:s.data.toList.length=s.size:=by simp
  rw [h1,h2,decide_eq_false hp];rfl
theorem hasPrefix_tf (s p:ByteArray) (h:Hp):TF Tryd.prog 27 ⟨[.string s,.string p]⟩ h (.bool (Lib.hasPrefix s.data.toList p.data.toList)) h:=by
 refine TF.still (fn:=Tryd.f27) (c:=(Tryd.f27.body.getD .skip)) Tryd.func27 (by kernel_rfl) Tryd.ntmps27 (by kernel_rfl) (by simp) ?_
 conv=>arg 2;whnf
 repeat (first|((with_reducible apply RS.callP);(iterate 3 exact rfl);exact fun H=>(lite_tf _ _ H);exact Nm_free (by simp))|refine Y4 ?_|refine Y0 ?_|refine Yz ?_|refine Y1 ?_)
 all_goals refine endsK_ret _ (.cons (.tmp rfl) .nil) ⟨rfl,rfl⟩
section
variable {P:Program} {ops:Array Oper} {draw:Bool} {rs:List Rk} {l:List Oper} {fl:List (Nat × Value)} {nt:Nat} {h:SH} {K:Fr→SH→Prop} {d:Tmp} {ty:TypeId} {pos:String} {af:Array Edge} {gd:Option (Nat × Bool)}
theorem RS.indexChr {t:TypeId} {x y:Operand} {s:ByteArray} {k:IntKind} {i:Int} {n:Nat} [hu:TyU P t .string] (hw:wantB ops ⟨some d,.index t x y,ty,pos,af,gd⟩ ⟨fl,nt⟩=some true) (hd:Nat.blt d nt=true) (hx:Fr.ev ⟨fl,nt⟩ x=some (.string s)) (hy:Fr.ev ⟨fl,nt⟩ y=some (.int k i)) (hi:i=(n:Int)) (hn:n < s.size)
 (hk:RS P ops draw (recP h.k false [] (some [])::rs) l ⟨(d,.int .u8 (chr s n))::fl,nt⟩ h K):RS P ops draw rs (⟨some d,.index t x y,ty,pos,af,gd⟩::l) ⟨fl,nt⟩ h K:=by
 rw [chr_lt hn] at hk;exact RS.indexStr hw hd hx hy hi hn hk
end
def tokV (t:TokS):Value:=.agg ⟨[.int .i64 t.kind,.string t.text,.int .i64 t.pos,.int .u64 t.value,.bool t.uns,.bool t.long]⟩
theorem value_tn (c:Int) (h0:0≤c) (h1:c≤255) (h:Hp):TF Tryd.prog 48 ⟨[.int .u8 c]⟩ h (.int .u64 (valN c:Int)) h:=by rw [← valN_cast];exact value_tf c h0 h1 h
set_option maxHeartbeats 4000000 in
theorem number_tf (s:ByteArray) (p:Nat) (hp:p < s.size) (hs:s.size≤1000000) (h:Hp):TF Tryd.prog 33 ⟨[.string s,.int .i64 p]⟩ h (.tuple ⟨[tokV (numberS s p).1,.bool (numberS s p).2]⟩) h:=by
 refine TF.still (fn:=Tryd.f33) (c:=(Tryd.f33.body.getD .skip)) Tryd.func33 (by kernel_rfl) Tryd.ntmps33 (by kernel_rfl) (by (simp [tokV])) ?_
 conv=>arg 2;whnf
 repeat (first|refine Yj ?_|refine Y30 ?_|refine Y4 ?_|refine Y2 ?_|refine Y8 ?_|refine Yi ?_|refine Y0 ?_|refine Y12 ?_|refine Y1 ?_)
 refine W.joinT (X:=Nat × Nat) (fun π x=>[(0,.string s),(1,.int .i64 p),(4,.pointer (some ⟨π 0,0,none⟩)),(6,.pointer (some ⟨π 1,0,none⟩)),(7,.int .i64 x.2),(8,.int .u64 x.1)]) (fun _=>h) (fun π x=>[(0,some ⟨⟨[.int .i64 0,.string ⟨#[]⟩,.int .i64 0,.int .u64 0,.bool false,.bool false]⟩,56⟩),(1,some ⟨⟨[.int .i64 3,.string ⟨#[]⟩,.int .i64 p,.int .u64 0,.bool false,.bool false]⟩,56⟩)]) (fun x=>numberS s p=numberR s p x.1 x.2∧p≤x.2∧x.2≤s.size∧(x.1=10∨x.1=16)) 2 ?_ ?_
 ·with_reducible apply W.cond
  exact rfl
  ·intro hx
   rw [hasP2 (by omega)] at hx
   repeat (first|refine Y4 ?_|((with_reducible apply RS.add2);(iterate 4 exact rfl);omega)|refine Y0 ?_|refine Y1 ?_)
   have hx':numHex s p=true:=hx
   have hlt:p+1 < s.size:=by
    rcases Nat.lt_or_ge (p+1) s.size with h1|h1
    ·exact h1
    ·simp only [Bool.and_eq_true,beq_iff_eq] at hx
     rw [chr_ge (i:=p+1) (by omega)] at hx
     exact absurd hx.2 (by decide)
   exact joinK_n (16,p+2) [0,1] rfl rfl ⟨by unfold numberS;rw [if_pos hx'],by simp only;omega,by simp only;omega,.inr rfl⟩ (by (refine FitL.mk ?_ ?_ ?_ ?_<;>(repeat' (first|exact trivial|exact rfl|apply And.intro));done))
  ·intro hx
   rw [hasP2 (by omega)] at hx
   repeat (first|(with_reducible apply W.skip))
   have hx':¬ numHex s p=true:=by unfold numHex;intro hc;rw [show (chr s p == 48 && chr s (p+1) == 120)=false from hx] at hc;cases hc
   exact joinK_n (10,p) [0,1] rfl rfl ⟨by unfold numberS;rw [if_neg hx'],by simp only;omega,by simp only;omega,.inl rfl⟩ (by (refine FitL.mk ?_ ?_ ?_ ?_<;>(repeat' (first|exact trivial|exact rfl|apply And.intro));done))
 ·intro π x hI
  obtain ⟨base,start⟩:=x
  obtain ⟨h1,h2,h3,h4⟩:=hI
  simp only at h1 h2 h3 h4
  dsimp only
  repeat (first|refine Y4 ?_|refine Y0 ?_|refine Y1n ?_|refine Y1 ?_)
  refine W.joinB (X:=Nat × Nat) (fun π x=>[(0,.string s),(1,.int .i64 p),(4,.pointer (some ⟨π 0,0,none⟩)),(6,.pointer (some ⟨π 1,0,none⟩)),(7,.int .i64 x.2),(9,.int .i64 start)]) (fun _=>h) (fun π x=>[(0,some ⟨⟨[.int .i64 0,.string ⟨#[]⟩,.int .i64 0,.int .u64 0,.bool false,.bool false]⟩,56⟩),(1,some ⟨⟨[.int .i64 3,.string ⟨#[]⟩,.int .i64 p,.int .u64 x.1,.bool false,.bool false]⟩,56⟩)]) (fun x=>numL s base (s.size - start) start 0=some x∧start≤x.2∧x.2≤s.size) 2 ?_ ?_
  ·refine W.loop (X:=Nat × Nat) (fun π x=>[(0,.string s),(1,.int .i64 p),(4,.pointer (some ⟨π 0,0,none⟩)),(6,.pointer (some ⟨π 1,0,none⟩)),(7,.int .i64 x.2),(8,.int .u64 base),(9,.int .i64 start)]) (fun _=>h) (fun π x=>[(0,some ⟨⟨[.int .i64 0,.string ⟨#[]⟩,.int .i64 0,.int .u64 0,.bool false,.bool false]⟩,56⟩),(1,some ⟨⟨[.int .i64 3,.string ⟨#[]⟩,.int .i64 p,.int .u64 x.1,.bool false,.bool false]⟩,56⟩)]) (fun x=>numL s base (s.size - start) start 0=numL s base (s.size - x.2) x.2 x.1∧start≤x.2∧x.2≤s.size∧x.1≤18446744073709551615) (fun x=>s.size - x.2) [0,1] (0,start) ⟨rfl,by simp only;omega,by simp only;omega,by simp only;omega⟩ (by (refine FitL.mk ?_ ?_ ?_ ?_<;>(repeat' (first|exact trivial|exact rfl|apply And.intro));done)) ?_
   intro π x hI
   obtain ⟨v,k⟩:=x
   obtain ⟨q1,q2,q3,q4⟩:=hI
   dsimp only at q1 q2 q3 q4 ⊢
   have hvl:=valN_le (chr s k)
   repeat (first|refine Yq ?_|refine Y1z ?_|refine Yr ?_|(with_reducible apply W.seq)|refine Y1 ?_)
   rcases h4 with rfl|rfl
   all_goals repeat' ((first|((refine YD ?_ ?_)<;>intro _)|((refine YG ?_ ?_)<;>intro _)|((refine YC ?_ ?_)<;>intro _)|((refine YN ?_ ?_)<;>intro _))<;>repeat (first|refine Y2e ?_|((with_reducible apply RS.callP);(iterate 3 exact rfl);first|exact fun H=>(digit_tf _ H);exact Nm_free (by simp)|exact fun H=>(letter_tf _ H);exact Nm_free (by simp)|exact fun H=>(value_tn _ (chr_nn (by omega)) (chr_le _ _) H);exact Nm_free (by simp))|refine Yg ?_|refine Yb ?_|refine Yd ?_|refine Y1z ?_|refine Ye ?_|((with_reducible apply RS.addU);(iterate 4 exact rfl);(first|omega|assumption))|((with_reducible apply RS.subUM);(iterate 4 exact rfl);omega)|((with_reducible apply RS.mulU);(iterate 4 exact rfl);(first|omega|assumption))|((with_reducible apply RS.quoU);(iterate 4 exact rfl);omega)|refine Yl ?_|refine Y2 ?_|refine Yi ?_|refine Yn ?_|refine Y0 ?_|(with_reducible first|apply W.seq|apply W.block|apply W.exit|apply W.ret|apply W.skip|apply thenK_n|apply thenK_e|apply thenK_r|apply blockK_n|apply blockK_r|apply roundK_e|apply roundK_r|apply joinK_r)|refine Y1 ?_|refine Y5 ?_|refine Y3 ?_|refine Yf ?_|refine Y24 ?_))
   all_goals first
    | exact joinK_n (v,k) [0,1] rfl rfl ⟨by rw [q1,numL_end ‹¬ k < s.size›],q2,q3⟩ (by (refine FitL.mk ?_ ?_ ?_ ?_<;>(repeat' (first|exact trivial|exact rfl|apply And.intro));done))
    | exact joinK_n (v,k) [0,1] rfl rfl ⟨by rw [q1,numL_step ‹k < s.size›,if_neg (fun hc=>by have:=hc.2;omega)],q2,q3⟩ (by (refine FitL.mk ?_ ?_ ?_ ?_<;>(repeat' (first|exact trivial|exact rfl|apply And.intro));done))
    | exact joinK_n (v,k) [0,1] rfl rfl ⟨by rw [q1,numL_step ‹k < s.size›,if_neg (fun hc=>by simp [wordyI, *] at hc)],q2,q3⟩ (by (refine FitL.mk ?_ ?_ ?_ ?_<;>(repeat' (first|exact trivial|exact rfl|apply And.intro));done))
    | (refine endsK_ret _ (.cons (.cellN rfl rfl rfl (Nat.le_of_ble_eq_true rfl)) (.cons (.tmp rfl) .nil)) ⟨rfl,?_⟩;rw [h1,numberR,q1,numL_step ‹k < s.size›,if_pos ⟨by simp [wordyI, *],by omega⟩,if_pos (by assumption)];rfl)
    | (refine roundK_n (v * 10+valN (chr s k),k+1) [0,1] rfl rfl ⟨?_,?_,?_,?_⟩ ?_ ?_;(rw [q1,numL_step ‹k < s.size›,if_pos ⟨by simp [wordyI, *],by omega⟩,if_neg (by assumption)]);(simp only;omega);(simp only;omega);(simp only;omega);(simp only;omega);((refine FitL.mk ?_ ?_ ?_ ?_<;>(repeat' (first|exact trivial|exact rfl|apply And.intro));done)))
    | (refine roundK_n (v * 16+valN (chr s k),k+1) [0,1] rfl rfl ⟨?_,?_,?_,?_⟩ ?_ ?_;(rw [q1,numL_step ‹k < s.size›,if_pos ⟨by simp [wordyI, *],by omega⟩,if_neg (by assumption)]);(simp only;omega);(simp only;omega);(simp only;omega);(simp only;omega);((refine FitL.mk ?_ ?_ ?_ ?_<;>(repeat' (first|exact trivial|exact rfl|apply And.intro));done)))
  ·intro π x hI
   obtain ⟨v,k⟩:=x
   obtain ⟨q1,q2,q3⟩:=hI
   dsimp only at q1 q2 q3 ⊢
   repeat' (first|refine Yj ?_|refine Y2e ?_|refine Y2c ?_|refine Y1r ?_|refine Yb ?_|refine Yd ?_|refine Y6 ?_|refine Y7 ?_|refine Yu ?_|refine Y1z ?_|refine Ye ?_|refine Yr ?_|refine Yk ?_|refine Y2 ?_|refine Yi ?_|refine Yn ?_|refine Y0 ?_|refine Y1m ?_|refine Y1 ?_|refine Y3 ?_|((refine YD ?_ ?_)<;>intro _)|((refine YG ?_ ?_)<;>intro _)|((refine YC ?_ ?_)<;>intro _)|((refine YN ?_ ?_)<;>intro _))
   all_goals refine endsK_ret _ (.cons (.cellN rfl rfl rfl (Nat.le_of_ble_eq_true rfl)) (.cons (.tmp rfl) .nil)) ⟨rfl,?_⟩
   all_goals rw [h1,numberR,q1]
   all_goals have e1:chr s s.size=-1:=chr_ge (by omega)
   all_goals have e2:∀ i,s.size≤i→chr s i=-1:=fun i hi=>chr_ge (by omega)
   all_goals simp only
   all_goals split
   all_goals first|(exact absurd ‹k=start› (by assumption))|skip
   ·rfl
   all_goals simp only [resultOf,numTail,tokV,wordyI]
   all_goals (try simp only [Nat.not_lt] at *)
   all_goals simp [*,takeV,setL,cellsV]
   all_goals exact ⟨by decide,by decide⟩
end Go.Proofs.YtbmmchaaiakanaaDoor
namespace Go.Proofs.YtbmmchaaiakanaaDoor
def tl (s:ByteArray) (p:Nat):List UInt8:=(s.extract p s.size).data.toList
theorem tl_eq {s:ByteArray} {p:Nat}:tl s p=s.data.toList.drop p:=by
 unfold tl
 rw [Lib.extract_data]
 simp [List.take_of_length_le]
theorem tl_cons {s:ByteArray} {p:Nat} (h:p < s.size):tl s p=s[p]::tl s (p+1):=by
 rw [tl_eq,tl_eq]
 have hl:p < s.data.toList.length:=by simpa using h
 rw [List.drop_eq_getElem_cons hl]
 congr 1
theorem tl_nil {s:ByteArray} {p:Nat} (h:¬ p < s.size):tl s p=[]:=by
 rw [tl_eq]
 exact List.drop_eq_nil_of_le (by simpa using h)
theorem chr_u8 {s:ByteArray} {p:Nat} (h:p < s.size) (c:UInt8):(s[p] == c)=decide (chr s p=(c.toNat:Int)):=by
 rw [chr_lt h,Bool.eq_iff_iff]
 simp only [beq_iff_eq,decide_eq_true_eq]
 constructor
 ·intro e;rw [e]
 ·intro e;exact UInt8.toNat_inj.1 (by omega)
def nlF (s:ByteArray):Nat→Nat→Nat
 | 0,p=>p
 | n+1,p=>if chr s p=10 then p else nlF s n (p+1)
def nl (s:ByteArray) (p:Nat):Nat:=nlF s (s.size - p) p
theorem nl_at {s:ByteArray} {p:Nat} (h:chr s p=10):nl s p=p:=by
 unfold nl
 cases s.size - p with
 | zero=>rfl
 | succ n=>rw [nlF,if_pos h]
theorem nl_step {s:ByteArray} {p:Nat} (hp:p < s.size) (h:¬ chr s p=10):nl s p=nl s (p+1):=by
 unfold nl
 rw [show s.size - p=(s.size - (p+1))+1 by omega,nlF,if_neg h]
theorem nl_end {s:ByteArray} {p:Nat} (hp:¬ p < s.size):nl s p=p:=by
 unfold nl
 rw [show s.size - p=0 by omega,nlF]
theorem nl_ge (s:ByteArray):∀ n p,s.size - p=n→p≤nl s p∧(p≤s.size→nl s p≤s.size)∧(nl s p < s.size→chr s (nl s p)=10):=by
 intro n
 induction n with
 | zero=>intro p h;rw [nl_end (by omega)];exact ⟨Nat.le_refl _,fun h=>h,fun _=>by omega⟩
 | succ n ih =>
  intro p h
  by_cases hc:chr s p=10
  ·rw [nl_at hc];exact ⟨Nat.le_refl _,fun h=>h,fun _=>hc⟩
  ·rw [nl_step (by omega) hc]
   have:=ih (p+1) (by omega)
   exact ⟨by omega,fun _=>this.2.1 (by omega),this.2.2⟩
theorem ixB_nl (s:ByteArray):∀ n p,s.size - p=n→p≤s.size→Lib.indexByte (tl s p) 10=if nl s p < s.size then ((nl s p - p:Nat):Int) else -1:=by
 intro n
 induction n with
 | zero=>intro p h hp;rw [tl_nil (by omega),nl_end (by omega),if_neg (by omega)];rfl
 | succ n ih =>
  intro p h hp
  have hlt:p < s.size:=by omega
  rw [tl_cons hlt,Lib.indexByte,chr_u8 hlt]
  by_cases hc:chr s p=10
  ·rw [nl_at hc,if_pos hlt,if_pos (by simpa using hc)];simp
  ·rw [if_neg (by simpa using hc),ih (p+1) (by omega) (by omega),nl_step hlt hc]
   have:=(nl_ge s (s.size - (p+1)) (p+1) rfl).1
   by_cases h2:nl s (p+1) < s.size
   ·rw [if_pos h2,if_pos h2]
    rw [if_neg (by simp only [beq_iff_eq];omega)]
    omega
   ·rw [if_neg h2,if_neg h2];rfl
def endF (s:ByteArray):Nat→Nat→Option Nat
 | 0,_=>none
 | n+1,p=>if chr s p=42∧chr s (p+1)=47 then some p else endF s n (p+1)
def endC (s:ByteArray) (p:Nat):Option Nat:=endF s (s.size - p) p
theorem endC_at {s:ByteArray} {p:Nat} (h:chr s p=42∧chr s (p+1)=47):endC s p=some p:=by
 have hp:p < s.size:=by
  by_cases h0:p < s.size
  ·exact h0
  ·rw [chr_ge h0] at h;exact absurd h.1 (by decide)
 unfold endC
 rw [show s.size - p=(s.size - (p+1))+1 by omega,endF,if_pos h]
theorem endC_step {s:ByteArray} {p:Nat} (h:¬ (chr s p=42∧chr s (p+1)=47)):endC s p=endC s (p+1):=by
 unfold endC
 by_cases h0:p < s.size
 ·rw [show s.size - p=(s.size - (p+1))+1 by omega,endF,if_neg h]
 ·rw [show s.size - p=0 by omega,show s.size - (p+1)=0 by omega];rfl
theorem endC_end {s:ByteArray} {p:Nat} (hp:¬ p+1 < s.size):endC s p=none:=by
 unfold endC
 by_cases h:p < s.size
 ·rw [show s.size - p=0+1 by omega,endF,if_neg (fun hc=>by rw [chr_ge hp] at hc;exact absurd hc.2 (by decide))];rfl
 ·rw [show s.size - p=0 by omega];rfl
theorem endC_ok (s:ByteArray):∀ n p i,s.size - p=n→endC s p=some i→p≤i∧i+1 < s.size:=by
 intro n
 induction n with
 | zero=>intro p i h he;rw [endC_end (by omega)] at he;cases he
 | succ n ih =>
  intro p i h he
  by_cases hc:chr s p=42∧chr s (p+1)=47
  ·rw [endC_at hc] at he
   injection he with he
   subst he
   refine ⟨Nat.le_refl _,?_⟩
   by_cases h0:p+1 < s.size
   ·exact h0
   ·rw [chr_ge h0] at hc;exact absurd hc.2 (by decide)
  ·rw [endC_step hc] at he
   have:=ih (p+1) i (by omega) he
   exact ⟨by omega,this.2⟩
def endI (s:ByteArray) (p:Nat):Int:=match endC s p with
 | none=>-1
 | some i=>((i - p:Nat):Int)
theorem ix_end (s:ByteArray):∀ n p,s.size - p=n→p≤s.size→Lib.index (tl s p) [42,47]=endI s p:=by
 intro n
 induction n with
 | zero =>
  intro p h hp
  unfold endI
  rw [tl_nil (by omega),endC_end (by omega)]
  rfl
 | succ n ih =>
  intro p h hp
  have hlt:p < s.size:=by omega
  have hpre:=hasP2 (a:=42) (b:=47) hp
  have hpre:List.isPrefixOf [42,47] (tl s p)=(chr s p == 42 && chr s (p+1) == 47):=hpre
  by_cases hc:chr s p=42∧chr s (p+1)=47
  ·rw [tl_cons hlt] at hpre ⊢
   rw [Lib.index,hpre]
   unfold endI
   rw [endC_at hc]
   simp [hc.1,hc.2]
  ·have hb:(chr s p == 42 && chr s (p+1) == 47)=false:=by
    cases hq:(chr s p == 42 && chr s (p+1) == 47) with
    | false=>rfl
    | true=>simp only [Bool.and_eq_true,beq_iff_eq] at hq;exact absurd hq hc
   rw [hb] at hpre
   rw [tl_cons hlt] at hpre ⊢
   rw [Lib.index,hpre,ih (p+1) (by omega) (by omega)]
   unfold endI
   rw [endC_step hc]
   cases he:endC s (p+1) with
   | none=>rfl
   | some i =>
    have:=(endC_ok s _ _ i rfl he).1
    simp only [Bool.false_eq_true,if_false]
    rw [if_neg (by simp only [beq_iff_eq];omega)]
    omega
def blankF2 (s:ByteArray):Nat→Nat→Nat × Bool
 | 0,p=>(p,true)
 | n+1,p=>if blankI (chr s p)=true then blankF2 s n (p+1)
  else if chr s p=47∧chr s (p+1)=47 then blankF2 s n (nl s p)
  else if chr s p=47∧chr s (p+1)=42 then (match endC s (p+2) with|none=>(p,false)|some i=>blankF2 s n (i+2))
  else (p,true)
def blankS (s:ByteArray) (p:Nat):Nat × Bool:=blankF2 s (s.size - p) p
theorem blankF2_end {s:ByteArray} {n p:Nat} (h:¬ p < s.size):blankF2 s n p=(p,true):=by
 cases n with
 | zero=>rfl
 | succ n=>rw [blankF2,chr_ge h,if_neg (by decide),if_neg (fun hc=>absurd hc.1 (by decide)),if_neg (fun hc=>absurd hc.1 (by decide))]
theorem nl_gt {s:ByteArray} {p:Nat} (h:chr s p=47):p < nl s p:=by
 have hp:p < s.size:=by
  by_cases h0:p < s.size
  ·exact h0
  ·rw [chr_ge h0] at h;exact absurd h (by decide)
 rw [nl_step hp (by rw [h];decide)]
 have:=(nl_ge s _ (p+1) rfl).1
 omega
theorem blankF2_le (s:ByteArray):∀ n p,p≤s.size→p≤(blankF2 s n p).1∧(blankF2 s n p).1≤s.size:=by
 intro n
 induction n with
 | zero=>intro p h;exact ⟨Nat.le_refl _,h⟩
 | succ n ih =>
  intro p h
  by_cases hp:p < s.size
  ·rw [blankF2]
   split
   ·have:=ih (p+1) (by omega);omega
   ·split
    ·rename_i h1
     have h2:=nl_gt h1.1
     have h3:=(nl_ge s _ p rfl).2.1 h
     have:=ih (nl s p) h3;omega
    ·split
     ·split
      ·exact ⟨Nat.le_refl _,h⟩
      ·rename_i i he
       have:=endC_ok s _ _ i rfl he
       have:=ih (i+2) (by omega);omega
     ·exact ⟨Nat.le_refl _,h⟩
  ·rw [blankF2_end hp];exact ⟨Nat.le_refl _,h⟩
def escI (c:Int):Int:=if c=110 then 0 else if c=116 then 1 else if c=48 then 2 else if c=92 then 3 else if c=39 then 4 else -1
def escV (c:Int):Nat:=if c=110 then 10 else if c=116 then 9 else if c=48 then 0 else if c=92 then 92 else 39
def charS (s:ByteArray) (p:Nat):TokS × Bool :=
 if chr s (p+1)=92∧chr s (p+3)=39 then (if escI (chr s (p+2)) < 0 then (zeroTok,false) else (⟨3,s.extract p (p+4),p,escV (chr s (p+2)),false,false⟩,true))
 else if chr s (p+2)=39∧32≤chr s (p+1)∧chr s (p+1) < 127∧chr s (p+1)≠39∧chr s (p+1)≠92 then (⟨3,s.extract p (p+3),p,(chr s (p+1)).toNat,false,false⟩,true)
 else (zeroTok,false)
theorem esc_ix (c:Int) (h0:0≤c) (h1:c≤255):Lib.indexByte [110,116,48,92,39] c.toNat.toUInt8=escI c:=by
 obtain ⟨n,rfl⟩:∃ n:Nat,c=(n:Int):=⟨c.toNat,by omega⟩
 have hn:n < 256:=by omega
 have:∀ m:Fin 256,Lib.indexByte [110,116,48,92,39] (((m.val:Int)).toNat.toUInt8)=escI (m.val:Int):=by decide +kernel
 exact this ⟨n,hn⟩
theorem size_tail (s:ByteArray) {p:Nat}:(s.extract p s.size).size=s.size - p:=by simp
theorem chr_tail {s:ByteArray} {p i:Nat}:chr (s.extract p s.size) i=chr s (p+i):=by
 by_cases h:i < (s.extract p s.size).size
 ·have h2:p+i < s.size:=by simp at h;omega
  rw [chr_lt h,chr_lt h2]
  have e:(s.extract p s.size)[i]'h=s[p+i]'h2:=by
   have h3:i < (tl s p).length:=by rw [tl_eq];simp;omega
   have h4:(s.extract p s.size)[i]'h=(tl s p)[i]'h3:=rfl
   have h5:(tl s p)[i]?=some (s[p+i]'h2):=by
    rw [tl_eq,List.getElem?_drop,Array.getElem?_toList]
    exact Array.getElem?_eq_getElem (by simpa using h2)
   rw [h4]
   rw [List.getElem?_eq_getElem h3] at h5
   injection h5
  rw [e]
 ·have h2:¬ p+i < s.size:=by simp at h;omega
  rw [chr_ge h,chr_ge h2]
open Go.AH
attribute [local irreducible] W RS
def GL (h:Hp):Prop:=∃ m e,h.m 1=some ⟨⟨[.int .i64 m]⟩,e⟩
theorem GL.of {h H:Hp} (hg:GL h) (hn:1 < h.n) (hb:∀ id,id < h.n→H.m id=h.m id):GL H:=by
 obtain ⟨m,e,h2⟩:=hg
 exact ⟨m,e,by rw [hb _ hn];exact h2⟩
theorem GL.tf {P:Program} {h h':Hp} {g:FuncId} {args:Array Value} {v:Value} (hg:GL h) (ht:1 < h.n→TF P g args h v h'):TF P g args h v h':=by
 intro ha ρ W hok
 obtain ⟨m,e,h2⟩:=hg
 exact ht (hok.lt _ _ h2) ha ρ W hok
theorem GL.cell {h:Hp} (hg:GL h) {ρ:Env} {W:World} (ho:HOK Tryd.prog.globals.size h ρ W):∃ m,W.cell? ⟨1,0,none⟩=some (.int .i64 m):=by
 obtain ⟨m,e,h2⟩:=hg
 have hc:=ho.cell (a:=⟨1,0,none⟩) h2 rfl (v:=.int .i64 m) rfl
 refine ⟨m,?_⟩
 obtain ⟨hl,hs⟩:=ho.glob 1 (by decide +kernel)
 simpa [renAddr,hl,hs] using hc
theorem indexByte_tf (s:ByteArray) (c:Int) (h:Hp):TF Tryd.prog 28 ⟨[.string s,.int .u8 c]⟩ h (.int .i64 (Lib.indexByte s.data.toList c.toNat.toUInt8)) h :=
 TF.of_same (by simp) (by simp) fun _ W _=>Tryd.strings_IndexByte s c W
theorem index_tf (s t:ByteArray) (hs:s.size < 4294967281) (h:Hp) (hg:GL h):TF Tryd.prog 29 ⟨[.string s,.string t]⟩ h (.int .i64 (Lib.index s.data.toList t.data.toList)) h :=
 TF.of_same (by simp) (by simp) fun _ W ho=>by
  obtain ⟨m,hm⟩:=hg.cell ho
  exact Tryd.strings_Index s t m W hs hm
theorem contains_tf (s t:ByteArray) (hs:s.size < 4294967281) (h:Hp) (hg:GL h):TF Tryd.prog 32 ⟨[.string s,.string t]⟩ h (.bool (Lib.contains s.data.toList t.data.toList)) h :=
 TF.of_same (by simp) (by simp) fun _ W ho=>by
  obtain ⟨m,hm⟩:=hg.cell ho
  exact Tryd.strings_Contains s t m W hs hm
theorem nl_tf (s:ByteArray) (p:Nat) (hp:p≤s.size) (h:Hp):TF Tryd.prog 28 ⟨[.string (s.extract p s.size),.int .u8 10]⟩ h (.int .i64 (if nl s p < s.size then ((nl s p - p:Nat):Int) else -1)) h:=by
 have:=indexByte_tf (s.extract p s.size) 10 h
 rw [show (s.extract p s.size).data.toList=tl s p from rfl,show ((10:Int).toNat.toUInt8)=10 from rfl,ixB_nl s _ p rfl hp] at this
 exact this
theorem end_tf (s:ByteArray) (p:Nat) (hp:p≤s.size) (hs:s.size≤1000000) (h:Hp) (hg:GL h):TF Tryd.prog 29 ⟨[.string (s.extract p s.size),.string ⟨#[42,47]⟩]⟩ h (.int .i64 (endI s p)) h:=by
 have:=index_tf (s.extract p s.size) ⟨#[42,47]⟩ (by simp;omega) h hg
 rw [show (s.extract p s.size).data.toList=tl s p from rfl,show ((⟨#[42,47]⟩:ByteArray).data.toList)=[42,47] from rfl,ix_end s _ p rfl hp] at this
 exact this
theorem esc_tf (c:Int) (h0:0≤c) (h1:c≤255) (h:Hp):TF Tryd.prog 28 ⟨[.string ⟨#[110,116,48,92,39]⟩,.int .u8 c]⟩ h (.int .i64 (escI c)) h:=by
 have:=indexByte_tf ⟨#[110,116,48,92,39]⟩ c h
 rw [show ((⟨#[110,116,48,92,39]⟩:ByteArray).data.toList)=[110,116,48,92,39] from rfl,esc_ix c h0 h1] at this
 exact this
theorem hp2_tf (s:ByteArray) (p:Nat) (a b:UInt8) (hp:p≤s.size) (h:Hp):TF Tryd.prog 27 ⟨[.string (s.extract p s.size),.string ⟨#[a,b]⟩]⟩ h (.bool (decide (chr s p=(a.toNat:Int)∧chr s (p+1)=(b.toNat:Int)))) h:=by
 have:=hasPrefix_tf (s.extract p s.size) ⟨#[a,b]⟩ h
 rw [show ((⟨#[a,b]⟩:ByteArray).data.toList)=[a,b] from rfl,hasP2 hp] at this
 have e:(chr s p == (a.toNat:Int) && chr s (p+1) == (b.toNat:Int))=decide (chr s p=(a.toNat:Int)∧chr s (p+1)=(b.toNat:Int)):=by
  rw [Bool.eq_iff_iff];simp
 rw [e] at this
 exact this
theorem blank_tf (s:ByteArray) (p:Nat) (hp:p≤s.size) (hs:s.size≤1000000) (h:Hp) (hg:GL h):TF Tryd.prog 13 ⟨[.string s,.int .i64 p]⟩ h (.tuple ⟨[.int .i64 (blankS s p).1,.bool (blankS s p).2]⟩) h:=by
 refine hg.tf fun hn=>?_
 refine TF.still (fn:=Tryd.f13) (c:=(Tryd.f13.body.getD .skip)) Tryd.func13 (by kernel_rfl) Tryd.ntmps13 (by kernel_rfl) (by simp) ?_
 conv=>arg 2;whnf
 repeat (first|refine Ys ?_|refine Y0 ?_|refine Y1n ?_|refine Y1 ?_)
 refine W.loop (X:=Nat × Nat) (fun π x=>[(0,.string s),(1,.int .i64 x.1)]) (fun _=>h) (fun π x=>[]) (fun x=>blankF2 s x.2 x.1=blankS s p∧x.1≤s.size∧s.size≤x.1+x.2) (fun x=>s.size - x.1) [] (p,s.size - p) ⟨rfl,hp,by simp only;omega⟩ (by (refine FitL.mk ?_ ?_ ?_ ?_<;>(repeat' (first|exact trivial|exact rfl|apply And.intro));done)) ?_
 intro π x hI
 obtain ⟨k,n⟩:=x
 obtain ⟨q1,q2,q3⟩:=hI
 dsimp only at q1 q2 q3 ⊢
 have hnl:=nl_ge s _ k rfl
 have heI:-1≤endI s (k+2)∧endI s (k+2)≤1000000:=by
  unfold endI
  cases he:endC s (k+2) with
  | none=>simp only;omega
  | some i=>have:=endC_ok s _ _ i rfl he;simp only;omega
 repeat' (first|refine Yj ?_|refine Y2e ?_|((with_reducible apply RS.callP);(iterate 3 exact rfl);first|exact fun H=>(nl_tf _ _ (by omega) H);exact Nm_free (by simp)|exact fun H=>(hp2_tf _ _ _ _ (by omega) H);exact Nm_free (by simp))|refine Y4 ?_|refine Yb ?_|refine Yd ?_|refine Yu ?_|refine Y1z ?_|refine Ye ?_|((with_reducible apply RS.add2);(iterate 4 exact rfl);omega)|refine Y1g ?_|refine Yr ?_|refine Yn ?_|refine Y0 ?_|(with_reducible first|apply W.seq|apply W.block|apply W.exit|apply W.ret|apply W.skip|apply thenK_n|apply thenK_e|apply thenK_r|apply blockK_n|apply blockK_r|apply roundK_e|apply roundK_r)|refine Y1 ?_|refine Y5 ?_|refine Yf ?_|((refine YD ?_ ?_)<;>intro _)|((refine YG ?_ ?_)<;>intro _)|((refine YC ?_ ?_)<;>intro _)|((refine YN ?_ ?_)<;>intro _))
 all_goals first
  | (exfalso;omega)
  | skip
 rotate_left 6
 ·rename_i hc
  have hk1:k+1 < s.size:=by
   by_cases h0:k+1 < s.size
   ·exact h0
   ·rw [chr_ge h0] at hc;exact absurd hc.2 (by decide)
  repeat' (first|refine Yj ?_|((with_reducible apply RS.callR true []);(iterate 3 exact rfl);exact fun H hH=>end_tf _ _ (by omega) hs H (hg.of hn (hH.b rfl));exact Nm_free (by simp))|refine Y4 ?_|refine Yu ?_|refine Y1g ?_|refine Y0 ?_|(with_reducible first|apply W.seq|apply W.ret|apply W.skip|apply thenK_n|apply thenK_r|apply blockK_n|apply blockK_r|apply roundK_r)|refine Y1 ?_|((refine YD ?_ ?_)<;>intro _)|((refine YG ?_ ?_)<;>intro _)|((refine YC ?_ ?_)<;>intro _)|((refine YN ?_ ?_)<;>intro _))
  all_goals obtain ⟨m,rfl⟩:∃ m,n=m+1:=⟨n - 1,by omega⟩
  all_goals rw [blankF2,if_neg (by simp [blankI, *]),if_neg (by assumption),if_pos (by assumption)] at q1
  ·rename_i he
   unfold endI at he
   cases hq:endC s (k+2) with
   | none =>
    rw [hq] at q1
    refine endsK_ret _ (.cons (.tmp rfl) (.cons (.tmp rfl) .nil)) ⟨rfl,?_⟩
    rw [← q1];rfl
   | some i=>rw [hq] at he;simp only at he;omega
  ·rename_i he
   cases hq:endC s (k+2) with
   | none=>unfold endI at he;rw [hq] at he;simp only at he;omega
   | some i =>
    rw [hq] at q1
    have hv:endI s (k+2)=((i - (k+2):Nat):Int):=by unfold endI;rw [hq]
    have hi:=endC_ok s _ _ i rfl hq
    refine roundK_n (i+2,m) [] rfl rfl ⟨q1,by simp only;omega,by simp only;omega⟩ (by simp only;omega) ⟨⟨rfl,?_,trivial⟩,rfl,trivial,rfl⟩
    show some (Value.int IntKind.i64 (_:Int))=some (Value.int IntKind.i64 (_:Int))
    congr 2
    rw [hv];simp only;omega
 ·obtain ⟨m,rfl⟩:∃ m,n=m+1:=⟨n - 1,by omega⟩
  rw [blankF2,if_neg (by simp [blankI, *]),if_neg (by assumption),if_neg (by assumption)] at q1
  refine endsK_ret _ (.cons (.tmp rfl) (.cons (.tmp rfl) .nil)) ⟨rfl,?_⟩
  rw [← q1];rfl
 ·rw [blankF2_end (by assumption)] at q1
  refine endsK_ret _ (.cons (.tmp rfl) (.cons (.tmp rfl) .nil)) ⟨rfl,?_⟩
  rw [← q1];rfl
 iterate 4
  obtain ⟨m,rfl⟩:∃ m,n=m+1:=⟨n - 1,by omega⟩
  rw [blankF2,if_pos (by simp [blankI, *])] at q1
  refine roundK_n (k+1,m) [] rfl rfl ⟨q1,by simp only;omega,by simp only;omega⟩ (by simp only;omega) (by (refine FitL.mk ?_ ?_ ?_ ?_<;>(repeat' (first|exact trivial|exact rfl|apply And.intro));done))
 ·rename_i he
  obtain ⟨m,rfl⟩:∃ m,n=m+1:=⟨n - 1,by omega⟩
  rw [blankF2,if_neg (by simp [blankI, *]),if_pos (by assumption)] at q1
  have hz:nl s k=s.size:=by
   by_cases h0:nl s k < s.size
   ·rw [if_pos h0] at he;omega
   ·have:=hnl.2.1 q2;omega
  rw [hz,blankF2_end (by omega)] at q1
  refine endsK_ret _ (.cons (.tmp rfl) (.cons (.tmp rfl) .nil)) ⟨rfl,?_⟩
  rw [← q1];rfl
 ·rename_i hc he
  obtain ⟨m,rfl⟩:∃ m,n=m+1:=⟨n - 1,by omega⟩
  rw [blankF2,if_neg (by simp [blankI, *]),if_pos (by assumption)] at q1
  have hz:nl s k < s.size:=by
   by_cases h0:nl s k < s.size
   ·exact h0
   ·rw [if_neg h0] at he;omega
  have hgt:=nl_gt hc.1
  refine roundK_n (nl s k,m) [] rfl rfl ⟨q1,by simp only;omega,by simp only;omega⟩ (by simp only;omega) ⟨⟨rfl,?_,trivial⟩,rfl,trivial,rfl⟩
  show some (Value.int IntKind.i64 (_:Int))=some (Value.int IntKind.i64 (_:Int))
  rw [if_pos hz]
  congr 2
  simp only;omega
section
variable {P:Program} {ops:Array Oper} {draw:Bool} {rs:List Rk} {l:List Oper} {fl:List (Nat × Value)} {nt:Nat} {h:SH} {K:Fr→SH→Prop} {d:Tmp} {ty:TypeId} {pos:String} {af:Array Edge} {gd:Option (Nat × Bool)}
theorem RS.indexChr0 {t:TypeId} {x y:Operand} {s:ByteArray} {k:IntKind} [hu:TyU P t .string] (hw:wantB ops ⟨some d,.index t x y,ty,pos,af,gd⟩ ⟨fl,nt⟩=some true) (hd:Nat.blt d nt=true) (hx:Fr.ev ⟨fl,nt⟩ x=some (.string s)) (hy:Fr.ev ⟨fl,nt⟩ y=some (.int k 0)) (hn:0 < s.size)
 (hk:RS P ops draw (recP h.k false [] (some [])::rs) l ⟨(d,.int .u8 (chr s 0))::fl,nt⟩ h K):RS P ops draw rs (⟨some d,.index t x y,ty,pos,af,gd⟩::l) ⟨fl,nt⟩ h K:=RS.indexChr (n:=0) hw hd hx hy rfl hn hk
theorem RS.indexChr1 {t:TypeId} {x y:Operand} {s:ByteArray} {k:IntKind} [hu:TyU P t .string] (hw:wantB ops ⟨some d,.index t x y,ty,pos,af,gd⟩ ⟨fl,nt⟩=some true) (hd:Nat.blt d nt=true) (hx:Fr.ev ⟨fl,nt⟩ x=some (.string s)) (hy:Fr.ev ⟨fl,nt⟩ y=some (.int k 1)) (hn:1 < s.size)
 (hk:RS P ops draw (recP h.k false [] (some [])::rs) l ⟨(d,.int .u8 (chr s 1))::fl,nt⟩ h K):RS P ops draw rs (⟨some d,.index t x y,ty,pos,af,gd⟩::l) ⟨fl,nt⟩ h K:=RS.indexChr (n:=1) hw hd hx hy rfl hn hk
theorem RS.indexChr2 {t:TypeId} {x y:Operand} {s:ByteArray} {k:IntKind} [hu:TyU P t .string] (hw:wantB ops ⟨some d,.index t x y,ty,pos,af,gd⟩ ⟨fl,nt⟩=some true) (hd:Nat.blt d nt=true) (hx:Fr.ev ⟨fl,nt⟩ x=some (.string s)) (hy:Fr.ev ⟨fl,nt⟩ y=some (.int k 2)) (hn:2 < s.size)
 (hk:RS P ops draw (recP h.k false [] (some [])::rs) l ⟨(d,.int .u8 (chr s 2))::fl,nt⟩ h K):RS P ops draw rs (⟨some d,.index t x y,ty,pos,af,gd⟩::l) ⟨fl,nt⟩ h K:=RS.indexChr (n:=2) hw hd hx hy rfl hn hk
end
theorem esc_size (c:Int):(escI c).toNat < (⟨#[10,9,0,92,39]⟩:ByteArray).size:=by
 show (escI c).toNat < 5
 unfold escI
 repeat' split
 all_goals decide
theorem esc_val (c:Int) (h:¬ escI c < 0):IntKind.u64.wrap (chr ⟨#[10,9,0,92,39]⟩ (escI c).toNat)=(escV c:Int):=by
 unfold escI escV at *
 by_cases h1:c=110
 ·simp only [h1,if_true];decide +kernel
 by_cases h2:c=116
 ·subst h2;decide +kernel
 by_cases h3:c=48
 ·subst h3;decide +kernel
 by_cases h4:c=92
 ·subst h4;decide +kernel
 by_cases h5:c=39
 ·subst h5;decide +kernel
 ·simp [h1,h2,h3,h4,h5] at h
set_option maxHeartbeats 4000000 in
theorem char_tf (s:ByteArray) (p:Nat) (hp:p < s.size) (hs:s.size≤1000000) (h:Hp):TF Tryd.prog 34 ⟨[.string s,.int .i64 p]⟩ h (.tuple ⟨[tokV (charS s p).1,.bool (charS s p).2]⟩) h:=by
 have hz:=size_tail s (p:=p+1)
 have ht:∀ i,chr (s.extract (p+1) s.size) i=chr s (p+1+i):=fun i=>chr_tail
 refine TF.still (fn:=Tryd.f34) (c:=(Tryd.f34.body.getD .skip)) Tryd.func34 (by kernel_rfl) Tryd.ntmps34 (by kernel_rfl) (by (simp [tokV])) ?_
 conv=>arg 2;whnf
 repeat (first|refine Yj ?_|refine Y4 ?_|refine Yu ?_|refine Ye ?_|refine Yr ?_|refine Y8 ?_|refine Y0 ?_|refine Y12 ?_|refine Y1 ?_)
 generalize s.extract (p+1) s.size=r at *
 have t0:chr r 0=chr s (p+1):=ht 0
 have t1:chr r 1=chr s (p+2):=ht 1
 have t2:chr r 2=chr s (p+3):=ht 2
 have c3:¬ ((r.size:Int) ≥ 3)→chr s (p+3)=-1:=fun hx=>chr_ge (by omega)
 have c2:¬ ((r.size:Int) ≥ 2)→chr s (p+2)=-1:=fun hx=>chr_ge (by omega)
 repeat' ((first|((refine YD ?_ ?_)<;>intro _)|((refine YG ?_ ?_)<;>intro _)|((refine YC ?_ ?_)<;>intro _)|((refine YN ?_ ?_)<;>intro _))<;>repeat (first|refine Yj ?_|((with_reducible apply RS.indexChr0);(iterate 4 exact rfl);omega)|((with_reducible apply RS.indexChr1);(iterate 4 exact rfl);omega)|((with_reducible apply RS.indexChr2);(iterate 4 exact rfl);omega)|((with_reducible apply RS.callP);(iterate 3 exact rfl);exact fun H=>(esc_tf _ (chr_nn (by omega)) (chr_le _ _) H);exact Nm_free (by simp))|((with_reducible apply RS.indexChr);(iterate 4 exact rfl);exact (Int.toNat_of_nonneg (by omega)).symm;exact esc_size _)|((with_reducible first|apply RS.move|apply RS.assign|apply RS.convI);iterate 3 exact rfl)|refine Yb ?_|refine Yd ?_|refine Y6 ?_|refine Y7 ?_|refine Yu ?_|((with_reducible apply RS.add3);(iterate 4 exact rfl);omega)|((with_reducible apply RS.add4);(iterate 4 exact rfl);omega)|refine Yr ?_|refine Y2 ?_|refine Yi ?_|refine Yn ?_|refine Y0 ?_|refine Y1m ?_|refine Y1 ?_|refine Y5 ?_|refine Y3 ?_))
 all_goals refine endsK_ret _ (.cons (.cellN rfl rfl rfl (Nat.le_of_ble_eq_true rfl)) (.cons (.tmp rfl) .nil)) ⟨rfl,?_⟩
 all_goals simp only [t0,t1,t2,bne_iff_ne,ne_eq,bne_eq_false_iff_eq,Int.not_lt,Int.not_le,ge_iff_le] at *
 all_goals unfold charS
 all_goals (repeat' split)
 all_goals first
  | (exfalso;omega)
  | rfl
  | (have e:=esc_val (chr s (p+2)) (by omega);simp [resultOf,tokV,takeV,setL,cellsV,e];done)
  | (have e : IntKind.u64.wrap (chr s (p + 1)) = ((chr s (p + 1)).toNat : Int) := (by rw [wrap_u64 (by omega) (by omega)]; omega)
     simp [resultOf,tokV,takeV,setL,cellsV,e];done)
  | trace_state
attribute [local irreducible] WR
def signsL:List Nat:=[60,60,61,32,62,62,61,32,45,62,32,43,43,32,45,45,32,60,60,32,62,62,32,60,61,32,62,61,32,61,61,32,33,61,32,38,38,32,124,124,32,43,61,32,45,61,32,42,61,32,47,61,32,37,61,32,38,61,32,124,61,32,94,61,32,43,32,45,32,42,32,47,32,37,32,38,32,124,32,94,32,126,32,33,32,60,32,62,32,61,32,63,32,58,32,59,32,44,32,46,32,40,32,41,32,91,32,93,32,123,32,125]
def signsB:ByteArray:=⟨([60,60,61,32,62,62,61,32,45,62,32,43,43,32,45,45,32,60,60,32,62,62,32,60,61,32,62,61,32,61,61,32,33,61,32,38,38,32,124,124,32,43,61,32,45,61,32,42,61,32,47,61,32,37,61,32].append [38,61,32,124,61,32,94,61,32,43,32,45,32,42,32,47,32,37,32,38,32,124,32,94,32,126,32,33,32,60,32,62,32,61,32,63,32,58,32,59,32,44,32,46,32,40,32,41,32,91,32,93,32,123,32,125]).toArray⟩
def signL:List (List UInt8):=[[60,60,61],[62,62,61],[45,62],[43,43],[45,45],[60,60],[62,62],[60,61],[62,61],[61,61],[33,61],[38,38],[124,124],[43,61],[45,61],[42,61],[47,61],[37,61],[38,61],[124,61],[94,61],[43],[45],[42],[47],[37],[38],[124],[94],[126],[33],[60],[62],[61],[63],[58],[59],[44],[46],[40],[41],[91],[93],[123],[125]]
def signV:List Value:=signL.map fun l=>.string ⟨⟨l⟩⟩
def spaceN (c:Nat):Nat:=if c=32∨(9≤c∧c≤13) then 1 else 0
def spaceV:List Value:=(List.range 256).map fun i=>.int .u8 (spaceN i:Int)
theorem space_at {c:Nat} (h:c < 256):spaceV[c]?=some (.int .u8 (spaceN c:Int)):=by
 unfold spaceV
 rw [List.getElem?_map,List.getElem?_range h];rfl
def GS (h:Hp):Prop:=∃ e,h.m 0=some ⟨⟨spaceV⟩,e⟩
theorem GS.tf {P:Program} {h h':Hp} {g:FuncId} {args:Array Value} {v:Value} (hg:GS h) (ht:0 < h.n→TF P g args h v h'):TF P g args h v h':=by
 intro ha ρ W hok
 obtain ⟨e,h2⟩:=hg
 exact ht (hok.lt _ _ h2) ha ρ W hok
def sgC (i:Nat):Nat:=signsL.getD i 0
structure FldS where
 n:Nat
 w:Nat
 o:Nat
def fld1:Nat→FldS
 | 0=>⟨0,1,0⟩
 | i+1=>⟨(fld1 i).n+(if (fld1 i).w=1∧spaceN (sgC i)=0 then 1 else 0),spaceN (sgC i),(fld1 i).o ||| sgC i⟩
def fld2:Nat→Nat × Nat
 | 0=>(0,0)
 | i+1=>if spaceN (sgC i)=1 then ((fld2 i).1+1,i+1) else fld2 i
def fieldOK (i:Nat):Bool :=
 Nat.blt (sgC i) 128 && Nat.ble (fld1 i).n 1000 && Nat.ble (fld1 i).w 1 && decide (byteAt signsB i=(sgC i:Int)) && Nat.ble (spaceN (sgC i)) 1 &&
 decide (IntKind.u8.wrap (BitVec.ofInt 8 ((fld1 i).o:Int) ||| BitVec.ofInt 8 (sgC i:Int)).toNat=(((fld1 (i+1)).o:Nat):Int)) &&
 (if spaceN (sgC i)=1 then Nat.ble (fld2 i).2 i && Nat.blt (fld2 i).1 45 && Nat.blt (i+1) 112 && Nat.beq (spaceN (sgC (i+1))) 0 && ((signsB.extract (fld2 i).2 i).data.toList == signL.getD (fld2 i).1 []) else true)
theorem field_all:(List.range 112).all fieldOK=true:=by decide +kernel
theorem fld1_end:fld1 112=⟨45,0,127⟩:=by kernel_rfl
theorem fld2_end:fld2 112=(44,111):=by kernel_rfl
structure FieldF (i:Nat):Prop where
 c:sgC i < 128
 n:(fld1 i).n≤1000
 w:(fld1 i).w≤1
 b:byteAt signsB i=(sgC i:Int)
 s:spaceN (sgC i)≤1
 o:IntKind.u8.wrap (BitVec.ofInt 8 ((fld1 i).o:Int) ||| BitVec.ofInt 8 (sgC i:Int)).toNat=(((fld1 (i+1)).o:Nat):Int)
 f:spaceN (sgC i)=1→(fld2 i).2≤i∧(fld2 i).1 < 45∧i+1 < 112∧spaceN (sgC (i+1))=0∧signV[(fld2 i).1]?=some (.string (signsB.extract (fld2 i).2 i))
theorem field_ok {i:Nat} (h:i < 112):FieldF i:=by
 have:=List.all_eq_true.1 field_all i (List.mem_range.2 h)
 unfold fieldOK at this
 simp only [Bool.and_eq_true,decide_eq_true_eq] at this
 obtain ⟨⟨⟨⟨⟨⟨h1,h2⟩,h3⟩,h4⟩,h5⟩,h6⟩,h7⟩:=this
 refine ⟨blt_iff.1 h1,ble_iff.1 h2,ble_iff.1 h3,h4,ble_iff.1 h5,h6,fun hs=>?_⟩
 rw [if_pos hs] at h7
 simp only [Bool.and_eq_true,beq_iff_eq] at h7
 obtain ⟨⟨⟨⟨k1,k2⟩,k3⟩,k4⟩,k5⟩:=h7
 refine ⟨ble_iff.1 k1,blt_iff.1 k2,blt_iff.1 k3,Nat.eq_of_beq_eq_true k4,?_⟩
 have hlt:(fld2 i).1 < signL.length:=blt_iff.1 k2
 unfold signV
 rw [List.getElem?_map,List.getElem?_eq_getElem hlt,Option.map_some]
 rw [List.getD_eq_getElem?_getD,List.getElem?_eq_getElem hlt,Option.getD_some] at k5
 rw [← k5]
theorem byte_sg {n:Nat} (h:n < 112):byteAt signsB n=(sgC n:Int):=(field_ok h).b
def cellsF (k:Nat):List Value:=signV.take k++List.replicate (45 - k) (.string ⟨#[]⟩)
theorem cellsF_len {k:Nat} (h:k≤45):(cellsF k).length=45:=by
 unfold cellsF
 have:signV.length=45:=rfl
 simp only [List.length_append,List.length_take,List.length_replicate,this];omega
theorem cellsF_set {k:Nat} {v:Value} (h:k < 45) (hv:signV[k]?=some v):setL (cellsF k) (0+k * 1) [v]=cellsF (k+1):=by
 rw [setL_cons,setL_nil,Nat.zero_add,Nat.mul_one]
 unfold cellsF
 have hl:(signV.take k).length=k:=by
  have:signV.length=45:=rfl
  simp only [List.length_take,this];omega
 rw [List.set_append_right _ _ (by omega),hl,Nat.sub_self,show 45 - k=(45 - (k+1))+1 by omega,List.replicate_succ,List.set_cons_zero,List.take_add_one,hv]
 simp
theorem last_ok:signV[44]?=some (.string (signsB.extract 111 112)):=by kernel_rfl
section
variable {P:Program} {ops:Array Oper} {draw:Bool} {rs:List Rk} {l:List Oper} {fl:List (Nat × Value)} {nt:Nat} {h:SH} {K:Fr→SH→Prop} {d:Tmp} {ty:TypeId} {pos:String} {af:Array Edge} {gd:Option (Nat × Bool)}
theorem RS.com [Pend] {t:TypeId} {x:Operand} {p:Nat} (hw:wantB ops ⟨some d,.unOp .xor t x,ty,pos,af,gd⟩ ⟨fl,nt⟩=some true) (hd:Nat.blt d nt=true) (hx:Fr.ev ⟨fl,nt⟩ x=some (.int .i64 (p:Int))) (hp:p≤1)
 (hk:RS P ops draw (recP h.k false [] (some [])::rs) l ⟨(d,.int .i64 (-1 - (p:Int)))::fl,nt⟩ h K):RS P ops draw rs (⟨some d,.unOp .xor t x,ty,pos,af,gd⟩::l) ⟨fl,nt⟩ h K:=by
 refine RS.pure1 (v:=.int .i64 (-1 - (p:Int))) rfl (by simp) hw hd hx (by simp) (by simp) (fun ev W he=>?_) hk
 have hc:p=0∨p=1:=by omega
 rcases hc with rfl|rfl<;>simp [execOp,he,Op.unary,Op.intBits,IntKind.signed,IntKind.bits,IntKind.wrap]<;>decide
theorem RS.andC [Pend] {t yt:TypeId} {x y:Operand} {w p:Nat} (hw:wantB ops ⟨some d,.binOp .and t x y yt,ty,pos,af,gd⟩ ⟨fl,nt⟩=some true) (hd:Nat.blt d nt=true)
 (hx:Fr.ev ⟨fl,nt⟩ x=some (.int .i64 (w:Int))) (hy:Fr.ev ⟨fl,nt⟩ y=some (.int .i64 (-1 - (p:Int)))) (h1:w≤1) (h2:p≤1)
 (hk:RS P ops draw (recP h.k false [] (some [])::rs) l ⟨(d,.int .i64 ((if w=1∧p=0 then 1 else 0:Nat):Int))::fl,nt⟩ h K):RS P ops draw rs (⟨some d,.binOp .and t x y yt,ty,pos,af,gd⟩::l) ⟨fl,nt⟩ h K:=by
 refine RS.bin hw hd hx hy (v:=.int .i64 ((if w=1∧p=0 then 1 else 0:Nat):Int)) ?_ hk
 have hc:w=0∨w=1:=by omega
 have hc2:p=0∨p=1:=by omega
 rcases hc with rfl|rfl<;>rcases hc2 with rfl|rfl<;>rfl
theorem RS.indexSg [Pend] {t:TypeId} {x y:Operand} {k:IntKind} {n:Nat} [hu:TyU P t .string] (hw:wantB ops ⟨some d,.index t x y,ty,pos,af,gd⟩ ⟨fl,nt⟩=some true) (hd:Nat.blt d nt=true) (hx:Fr.ev ⟨fl,nt⟩ x=some (.string signsB)) (hy:Fr.ev ⟨fl,nt⟩ y=some (.int k (n:Int))) (hn:n < 112)
 (hk:RS P ops draw (recP h.k false [] (some [])::rs) l ⟨(d,.int .u8 (sgC n:Int))::fl,nt⟩ h K):RS P ops draw rs (⟨some d,.index t x y,ty,pos,af,gd⟩::l) ⟨fl,nt⟩ h K:=by
 rw [← byte_sg hn] at hk;exact RS.indexAt hw hd hx hy hn hk
end
def FieldsQ (h:Hp) (vs:List Value) (h':SH):Prop:=h'.base=h∧∃ i,i < h'.k∧lookB h'.l i=some ⟨⟨signV⟩,9⟩∧resultOf vs=.slice (some ⟨h'.π i,0,none⟩) 45 45
set_option maxHeartbeats 4000000 in
set_option maxRecDepth 100000 in
theorem fields_tf (H:Hp) (hg:GS H):TF Tryd.prog 35 ⟨[.string signsB]⟩ H (.slice (some ⟨H.n,0,none⟩) 45 45) (H.push ⟨⟨signV⟩,9⟩):=by
 refine hg.tf fun hn=>?_
 obtain ⟨e,hm⟩:=hg
 have hsz:signsB.size=112:=rfl
 refine TF.ends (fn:=Tryd.f35) (c:=(Tryd.f35.body.getD .skip)) (Q:=FieldsQ H) Tryd.func35 (by kernel_rfl) Tryd.ntmps35 (by kernel_rfl) ?_ ?_
 ·conv=>arg 2;whnf
  repeat (first|refine Ys ?_|refine Y0 ?_|refine Y1n ?_|refine Y1 ?_)
  refine W.loop (X:=Nat × FldS) (fun π x=>[(0,.string signsB),(3,.int .i64 (x.2.n:Int)),(4,.int .i64 (x.2.w:Int)),(5,.int .u8 (x.2.o:Int)),(6,.int .i64 (x.1:Int))]) (fun _=>H) (fun π _=>[]) (fun x=>fld1 x.1=x.2∧x.1≤112) (fun x=>112 - x.1) [] (0,⟨0,1,0⟩) ⟨rfl,Nat.zero_le _⟩ (by (refine FitL.mk ?_ ?_ ?_ ?_<;>(repeat' (first|exact trivial|exact rfl|apply And.intro));done)) ?_
  rintro π ⟨i,⟨n,w,o⟩⟩ ⟨q1,q2⟩
  dsimp only at q1 q2 ⊢
  by_cases hi:i < 112
  ·have f:=field_ok hi
   have hsp:spaceV[0+sgC i * 1]?=some (.int .u8 (spaceN (sgC i):Int)):=by rw [Nat.zero_add,Nat.mul_one];exact space_at (by have:=f.c;omega)
   have hwr:IntKind.i64.wrap (spaceN (sgC i):Int)=(spaceN (sgC i):Int):=by have:=f.s;exact wrap64_fit (by omega) (by omega)
   have hor:binI .or .u8 (o:Int) (sgC i:Int)=some (.int .u8 (((fld1 (i+1)).o:Nat):Int)):=by rw [← f.o,q1];rfl
   have fw:=f.w
   have fn:=f.n
   rw [q1] at fw fn
   dsimp only at fw fn
   replace f:FieldF i:=f
   have hif:(if w=1∧spaceN (sgC i)=0 then 1 else 0:Nat)≤1:=by split<;>omega
   repeat (first|refine Y2g ?_|((with_reducible apply RS.com);(iterate 3 exact rfl);exact f.s)|((with_reducible apply RS.andC);(iterate 4 exact rfl);exact fw;exact f.s)|((with_reducible apply RS.bin);(iterate 4 exact rfl);exact hor)|((with_reducible apply RS.indexAddrArr);(iterate 4 exact rfl);have:=f.c;omega)|refine Y1s ?_|((with_reducible apply RS.convNat);(iterate 3 exact rfl);exact hwr)|refine Y4 ?_|refine Y6 ?_|refine Ye ?_|((with_reducible apply RS.addNat);(iterate 4 exact rfl);omega)|refine Yr ?_|refine Y0 ?_|refine Yx ?_|refine Y1 ?_|refine Y5 ?_)
   refine roundK_n (i+1,fld1 (i+1)) [] rfl rfl ⟨rfl,hi⟩ (by simp only;omega) (FitL.mk ⟨rfl,?_,rfl,rfl,rfl,trivial⟩ rfl trivial rfl)
   show some (Value.int .i64 _)=some (Value.int .i64 _)
   rw [show (fld1 (i+1)).n=(fld1 i).n+(if (fld1 i).w=1∧spaceN (sgC i)=0 then 1 else 0) from rfl,q1]
  ·have e0:i=112:=by omega
   subst e0
   rw [fld1_end] at q1
   injection q1 with e1 e2 e3
   subst e1;subst e2;subst e3
   repeat (first|((with_reducible apply (RS.makeSlice (n:=45) (cs:=cellsF 0)));(iterate 6 exact rfl);exact ⟨Nat.le_of_ble_eq_true rfl,Nat.le_of_ble_eq_true rfl⟩;kernel_rfl)|refine Y4 ?_|refine Y7 ?_|refine Yr ?_|refine Y0 ?_|(with_reducible first|apply W.seq|apply W.block|apply W.exit|apply W.skip|apply thenK_n|apply thenK_e|apply roundK_e)|refine Y1 ?_|refine Y3 ?_|refine Yf ?_)
   refine W.loop (X:=Unit) (fun π _=>[(0,.string signsB),(9,.slice (some ⟨π 0,0,none⟩) 45 45),(10,.int .i64 ((0:Nat):Int)),(11,.int .i64 ((0:Nat):Int)),(12,.int .i64 ((0:Nat):Int))]) (fun _=>H) (fun π _=>[(0,some ⟨⟨cellsF 0⟩,9⟩)]) (fun _=>True) (fun _=>0) [0] () trivial (by (refine FitL.mk ?_ ?_ ?_ ?_<;>(repeat' (first|exact trivial|exact rfl|apply And.intro));done)) ?_
   rintro π ⟨⟩ _
   dsimp only
   have f:=field_ok (i:=0) (Nat.le_of_ble_eq_true rfl)
   have hsp:spaceV[0+sgC 0 * 1]?=some (.int .u8 (spaceN (sgC 0):Int)):=by rw [Nat.zero_add,Nat.mul_one];exact space_at (by have:=f.c;omega)
   have hz:spaceN (sgC 0)=0:=rfl
   rw [hz] at hsp
   repeat (first|refine Y2g ?_|((with_reducible apply RS.indexAddrArr);(iterate 4 exact rfl);have:=f.c;omega)|refine Y1s ?_|refine Y4 ?_|refine Yb ?_|refine Y6 ?_|refine Y7 ?_|refine Yr ?_|refine Y0 ?_|(with_reducible first|apply W.seq|apply W.block|apply W.exit|apply thenK_n|apply thenK_e|apply roundK_e)|refine Y1 ?_|refine Y3 ?_|refine Yf ?_)
   clear f hsp hz
   refine W.loop (X:=Nat × Nat × Nat) (fun π x=>[(0,.string signsB),(9,.slice (some ⟨π 0,0,none⟩) 45 45),(10,.int .i64 (x.2.1:Int)),(11,.int .i64 (x.2.2:Int)),(12,.int .i64 (x.1:Int))]) (fun _=>H) (fun π x=>[(0,some ⟨⟨cellsF x.2.1⟩,9⟩)]) (fun x=>fld2 x.1=x.2∧x.1≤112) (fun x=>112 - x.1) [0] (0,0,0) ⟨rfl,Nat.zero_le _⟩ (by (refine FitL.mk ?_ ?_ ?_ ?_<;>(repeat' (first|exact trivial|exact rfl|apply And.intro));done)) ?_
   rintro π ⟨i,na,fs⟩ ⟨q1,q2⟩
   dsimp only at q1 q2 ⊢
   by_cases hi:i < 112
   ·have f:=field_ok hi
    have hsp:spaceV[0+sgC i * 1]?=some (.int .u8 (spaceN (sgC i):Int)):=by rw [Nat.zero_add,Nat.mul_one];exact space_at (by have:=f.c;omega)
    have hpc:spaceN (sgC i)=0∨spaceN (sgC i)=1:=by have:=f.s;omega
    rcases hpc with hp|hp
    ·rw [hp] at hsp
     repeat (first|refine Y2g ?_|((with_reducible apply RS.indexAddrArr);(iterate 4 exact rfl);have:=f.c;omega)|refine Y1s ?_|refine Y4 ?_|refine Y6 ?_|refine Ye ?_|refine Yr ?_|refine Y0 ?_|(with_reducible first|apply W.seq|apply W.block|apply W.exit|apply W.skip|apply thenK_n|apply thenK_e)|refine Y1 ?_|refine Y5 ?_|refine Yf ?_)
     refine roundK_n (i+1,na,fs) [0] rfl rfl ⟨?_,hi⟩ (by simp only;omega) (by (refine FitL.mk ?_ ?_ ?_ ?_<;>(repeat' (first|exact trivial|exact rfl|apply And.intro));done))
     show (if spaceN (sgC i)=1 then _ else _)=_
     rw [if_neg (by omega),q1]
    ·have ff:=f.f hp
     rw [q1] at ff
     obtain ⟨f1,f2,f3,f4,f5⟩:=ff
     dsimp only at f1 f2 f5
     rw [hp] at hsp
     have hlen:0+na * 1+1≤(cellsF na).length:=by rw [cellsF_len (by omega)];omega
     have hset:=cellsF_set f2 f5
     repeat (first|refine Y2g ?_|((with_reducible apply RS.indexAddrArr);(iterate 4 exact rfl);have:=f.c;omega)|refine Y1s ?_|((with_reducible apply RS.sliceStr);(iterate 3 exact rfl);exact ⟨_,_,rfl,rfl⟩;exact ⟨_,_,rfl,rfl⟩;omega;omega)|refine Y3b ?_|((with_reducible apply (RS.store (cs':=cellsF (na+1))));(iterate 5 exact rfl);exact hlen;(iterate 2 exact rfl);exact hset)|refine Y4 ?_|refine Y6 ?_|refine Y7 ?_|refine Ye ?_|refine Yr ?_|refine Y0 ?_|(with_reducible first|apply W.seq|apply W.block|apply W.skip|apply thenK_n)|refine Y1 ?_|refine Y5 ?_|refine Y3 ?_)
     refine W.loop (X:=Unit) (fun π _=>[(0,.string signsB),(9,.slice (some ⟨π 0,0,none⟩) 45 45),(10,.int .i64 ((na+1:Nat):Int)),(12,.int .i64 ((i+1:Nat):Int))]) (fun _=>H) (fun π _=>[(0,some ⟨⟨cellsF (na+1)⟩,9⟩)]) (fun _=>True) (fun _=>0) [0] () trivial (by (refine FitL.mk ?_ ?_ ?_ ?_<;>(repeat' (first|exact trivial|exact rfl|apply And.intro));done)) ?_
     rintro π ⟨⟩ _
     dsimp only
     clear hsp f
     have f:=field_ok f3
     have hsp:spaceV[0+sgC (i+1) * 1]?=some (.int .u8 (spaceN (sgC (i+1)):Int)):=by rw [Nat.zero_add,Nat.mul_one];exact space_at (by have:=f.c;omega)
     rw [f4] at hsp
     repeat (first|refine Y2g ?_|((with_reducible apply RS.indexAddrArr);(iterate 4 exact rfl);have:=f.c;omega)|refine Y1s ?_|refine Y4 ?_|refine Yb ?_|refine Y6 ?_|refine Y7 ?_|refine Yr ?_|refine Y0 ?_|(with_reducible first|apply W.seq|apply W.exit|apply thenK_n|apply thenK_e|apply blockK_n|apply roundK_e)|refine Y1 ?_|refine Y3 ?_|refine Yf ?_)
     refine roundK_n (i+1,na+1,i+1) [0] rfl rfl ⟨?_,hi⟩ (by simp only;omega) (by (refine FitL.mk ?_ ?_ ?_ ?_<;>(repeat' (first|exact trivial|exact rfl|apply And.intro));done))
     show (if spaceN (sgC i)=1 then _ else _)=_
     rw [if_pos hp,q1]
   ·have e0:i=112:=by omega
    subst e0
    rw [fld2_end] at q1
    injection q1 with e1 e2
    subst e1;subst e2
    have hlen:0+44 * 1+1≤(cellsF 44).length:=Nat.le_of_ble_eq_true rfl
    have hset:=cellsF_set (k:=44) (by decide) last_ok
    repeat (first|refine Y3b ?_|((with_reducible apply (RS.store (cs':=cellsF 45)));(iterate 5 exact rfl);exact hlen;(iterate 2 exact rfl);exact hset)|((with_reducible apply (RS.sliceStr (h0:=112)));(iterate 3 exact rfl);exact ⟨_,_,rfl,rfl⟩;exact rfl;exact Nat.le_of_ble_eq_true rfl;exact Nat.le_of_ble_eq_true rfl)|refine Y4 ?_|refine Y6 ?_|refine Y7 ?_|refine Yr ?_|refine Y0 ?_|refine Y2i ?_|refine Y1 ?_|refine Y5 ?_|refine Y3 ?_|refine Yf ?_)
    exact endsK_ret _ (.cons (.tmp rfl) .nil) ⟨rfl,0,Nat.lt_succ_self 0,rfl,rfl⟩
 ·intro vs h' w hq hold htf
  obtain ⟨hbase,i,h1,h2,h3⟩:=hq
  rw [h3] at htf
  have hlo:=w.lo i h1
  have hhi:=w.hi i h1
  have hm:=SH.m_loc w h1
  rw [h2] at hm
  rw [hbase] at hlo
  refine TF.leave1 (j:=h'.π i) (htf ?_) hlo hm (fun k hk=>hold k hk hbase) ?_ ?_ ?_
  ·have hden:h'.den.n=h'.π h'.k:=rfl
   simp [hden];omega
  ·intro v hv
   simp only [List.mem_toArray,signV,List.mem_map] at hv
   obtain ⟨_,_,rfl⟩:=hv
   simp
  ·simp
  ·intro ρ ρ2 _ e1 e2
   simp [renAddr,renCap,e1,e2]
end Go.Proofs.YtbmmchaaiakanaaDoor
namespace Go.Proofs.YtbmmchaaiakanaaDoor
def wordF (s:ByteArray):Nat→Nat→Nat
 | 0,p=>p
 | n+1,p=>if wordyI (chr s p)=true then wordF s n (p+1) else p
def wordE (s:ByteArray) (p:Nat):Nat:=wordF s (s.size - p) p
theorem wordE_step {s:ByteArray} {p:Nat} (h:wordyI (chr s p)=true):wordE s p=wordE s (p+1):=by
 unfold wordE
 have hp:p < s.size:=by
  by_cases h0:p < s.size
  ·exact h0
  ·rw [chr_ge h0] at h;exact absurd h (by decide)
 rw [show s.size - p=(s.size - (p+1))+1 by omega,wordF,if_pos h]
theorem wordE_end {s:ByteArray} {p:Nat} (h:¬ wordyI (chr s p)=true):wordE s p=p:=by
 unfold wordE
 cases s.size - p with
 | zero=>rfl
 | succ n=>rw [wordF,if_neg h]
theorem wordE_le (s:ByteArray):∀ n p,s.size - p=n→p≤wordE s p∧(p≤s.size→wordE s p≤s.size):=by
 intro n
 induction n with
 | zero=>intro p h;rw [wordE_end (by rw [chr_ge (by omega)];decide)];exact ⟨Nat.le_refl _,fun h=>h⟩
 | succ n ih =>
  intro p h
  by_cases hc:wordyI (chr s p)=true
  ·rw [wordE_step hc];have:=ih (p+1) (by omega);exact ⟨by omega,fun _=>this.2 (by omega)⟩
  ·rw [wordE_end hc];exact ⟨Nat.le_refl _,fun h=>h⟩
def wordsB:ByteArray:=⟨(([32,98,114,101,97,107,32,99,97,115,101,32,99,104,97,114,32,99,111,110,116,105,110,117,101,32,100,101,102,97,117,108,116].append [32,100,111,32,101,108,115,101,32,102,111,114,32,105,102,32,105,110,116,32,108,111,110,103,32,112,117,98,108,105,99,32,114]).append ([101,116,117,114,110,32,115,101,99,114,101,116,32,115,104,111,114,116,32,115,105,103,110,101,100,32,115,105,122,101,111,102,32].append [115,116,114,117,99,116,32,115,119,105,116,99,104,32,117,110,115,105,103,110,101,100,32,118,111,105,100,32,119,104,105,108,101,32])).toArray⟩
def isWord (t:ByteArray):Bool:=Lib.contains wordsB.data.toList ((⟨#[32]⟩:ByteArray)++t++(⟨#[32]⟩:ByteArray)).data.toList
def signList:List (List UInt8):=[[60,60,61],[62,62,61],[45,62],[43,43],[45,45],[60,60],[62,62],[60,61],[62,61],[61,61],[33,61],[38,38],[124,124],[43,61],[45,61],[42,61],[47,61],[37,61],[38,61],[124,61],[94,61],[43],[45],[42],[47],[37],[38],[124],[94],[126],[33],[60],[62],[61],[63],[58],[59],[44],[46],[40],[41],[91],[93],[123],[125]]
def signAt (s:ByteArray) (p:Nat) (x:List UInt8):Bool:=Lib.hasPrefix (tl s p) x
def oneS (s:ByteArray) (p:Nat):TokS × Bool :=
 if letterI (chr s p)=true then (⟨if isWord (s.extract p (wordE s p))=true then 2 else 1,s.extract p (wordE s p),p,0,false,false⟩,decide (wordE s p - p≤40))
 else if digitI (chr s p)=true then numberS s p
 else if chr s p=39 then charS s p
 else match signList.find? (signAt s p) with
  | some x=>(⟨4,⟨⟨x⟩⟩,p,0,false,false⟩,true)
  | none=>(zeroTok,false)
open Go.AH
attribute [local irreducible] W RS
theorem GS.of {h H:Hp} (hg:GS h) (hn:0 < h.n) (hb:∀ id,id < h.n→H.m id=h.m id):GS H:=by
 obtain ⟨e,h2⟩:=hg
 exact ⟨e,by rw [hb 0 hn];exact h2⟩
theorem fields_at {h:SH} (hg:GS h.base) (hn:0 < h.base.n) (H:Hp) (hH:Sees h true [] H):TF Tryd.prog 35 ⟨[.string signsB]⟩ H (.slice (some ⟨h.π h.k,0,none⟩) 45 45) (H.push ⟨⟨signV⟩,9⟩):=by
 have:=fields_tf H (hg.of hn (hH.b rfl))
 rw [hH.n] at this;exact this
@[simp] theorem tokV_free (n:Nat) (t:TokS):bnd n (tokV t):=by simp [tokV]
theorem size1 (t:ByteArray) (h:t.size≤1000000):(⟨#[32]⟩:ByteArray).size+t.size≤9223372036854775807:=by
 show 1+t.size≤_;omega
theorem size2 (t:ByteArray) (h:t.size≤1000000):((⟨#[32]⟩:ByteArray)++t).size+(⟨#[32]⟩:ByteArray).size≤9223372036854775807:=by
 rw [ByteArray.size_append];show 1+t.size+1≤_;omega
theorem sign_eq:signL=signList:=rfl
set_option maxRecDepth 100000 in
theorem one_tf (s:ByteArray) (p:Nat) (hp:p < s.size) (hs:s.size≤1000000) (h:Hp) (hg:GL h∧GS h):TF Tryd.prog 14 ⟨[.string s,.int .i64 p]⟩ h (.tuple ⟨[tokV (oneS s p).1,.bool (oneS s p).2]⟩) h:=by
 refine hg.1.tf fun hn=>?_
 refine hg.2.tf fun hn0=>?_
 refine TF.still (fn:=Tryd.f14) (c:=(Tryd.f14.body.getD .skip)) Tryd.func14 (by kernel_rfl) Tryd.ntmps14 (by kernel_rfl) (by (simp [tokV])) ?_
 conv=>arg 2;whnf
 repeat (first|refine Y2e ?_|((with_reducible apply RS.callP);(iterate 3 exact rfl);exact fun H=>(letter_tf _ H);exact Nm_free (by simp))|refine Y4 ?_|refine Y8 ?_|refine Y0 ?_|refine Y1n ?_|refine Y1 ?_)
 with_reducible apply W.cond
 exact rfl
 ·intro hc
  repeat (first|refine Y4 ?_|refine Y0 ?_|refine Y1n ?_|refine Y1 ?_)
  refine W.joinB (X:=Unit) (fun π x=>[(0,.string s),(1,.int .i64 p),(4,.pointer (some ⟨π 0,0,none⟩)),(7,.int .i64 (wordE s p))]) (fun _=>h) (fun π x=>[(0,some ⟨⟨[.int .i64 0,.string ⟨#[]⟩,.int .i64 0,.int .u64 0,.bool false,.bool false]⟩,56⟩)]) (fun x=>p≤wordE s p∧wordE s p≤s.size) 1 ?_ ?_
  ·refine W.loop (X:=Nat) (fun π x=>[(0,.string s),(1,.int .i64 p),(4,.pointer (some ⟨π 0,0,none⟩)),(7,.int .i64 x)]) (fun _=>h) (fun π x=>[(0,some ⟨⟨[.int .i64 0,.string ⟨#[]⟩,.int .i64 0,.int .u64 0,.bool false,.bool false]⟩,56⟩)]) (fun x=>wordE s x=wordE s p∧p≤x∧x≤s.size) (fun x=>s.size - x) [0] p ⟨rfl,Nat.le_refl _,by omega⟩ (by (refine FitL.mk ?_ ?_ ?_ ?_<;>(repeat' (first|exact trivial|exact rfl|apply And.intro));done)) ?_
   intro π k hI
   obtain ⟨q1,q2,q3⟩:=hI
   dsimp only at q1 q2 q3 ⊢
   repeat' (first|refine Y2e ?_|refine Y2c ?_|refine Y4 ?_|refine Yb ?_|refine Yd ?_|refine Y1z ?_|refine Ye ?_|refine Yr ?_|refine Yn ?_|refine Y0 ?_|(with_reducible first|apply W.seq|apply W.block|apply W.exit|apply W.skip|apply thenK_n|apply thenK_e|apply blockK_n|apply roundK_e)|refine Y1 ?_|refine Y5 ?_|refine Y3 ?_|refine Yf ?_|((refine YD ?_ ?_)<;>intro _)|((refine YG ?_ ?_)<;>intro _)|((refine YC ?_ ?_)<;>intro _)|((refine YN ?_ ?_)<;>intro _))
   ·exact roundK_n (k+1) [0] rfl rfl ⟨(wordE_step (by simp [wordyI, *])).symm.trans q1,by omega,by omega⟩ (by omega) (by (refine FitL.mk ?_ ?_ ?_ ?_<;>(repeat' (first|exact trivial|exact rfl|apply And.intro));done))
   ·exact roundK_n (k+1) [0] rfl rfl ⟨(wordE_step (by simp [wordyI, *])).symm.trans q1,by omega,by omega⟩ (by omega) (by (refine FitL.mk ?_ ?_ ?_ ?_<;>(repeat' (first|exact trivial|exact rfl|apply And.intro));done))
   ·have e:wordE s k=k:=wordE_end (by simp [wordyI, *])
    rw [e] at q1
    subst q1
    exact joinK_n () [0] rfl rfl ⟨q2,q3⟩ (by (refine FitL.mk ?_ ?_ ?_ ?_<;>(repeat' (first|exact trivial|exact rfl|apply And.intro));done))
   ·have e:wordE s k=k:=wordE_end (by rw [chr_ge (by assumption)];decide)
    rw [e] at q1
    subst q1
    exact joinK_n () [0] rfl rfl ⟨q2,q3⟩ (by (refine FitL.mk ?_ ?_ ?_ ?_<;>(repeat' (first|exact trivial|exact rfl|apply And.intro));done))
  ·intro π x hI
   obtain ⟨q1,q2⟩:=hI
   have hex:(s.extract p (wordE s p)).size≤1000000:=by simp;omega
   have hez:(s.extract p (wordE s p)).size=wordE s p - p:=by simp;omega
   repeat' (first|refine Yj ?_|((with_reducible apply RS.callR true []);(iterate 3 exact rfl);exact fun H hH=>contains_tf _ _ (Nat.le_of_ble_eq_true rfl) H (hg.1.of hn (hH.b rfl));exact Nm_free (by simp))|((with_reducible apply RS.strAdd);(iterate 4 exact rfl);(first|exact size1 _ hex|exact size2 _ hex))|refine Yg ?_|refine Yu ?_|refine Yr ?_|refine Yl ?_|refine Yk ?_|refine Y2 ?_|refine Y8 ?_|refine Yi ?_|refine Y0 ?_|(with_reducible first|apply W.seq|apply W.ret|apply W.skip|apply thenK_n|apply thenK_r|apply blockK_r)|refine Y1 ?_|((refine YD ?_ ?_)<;>intro _)|((refine YG ?_ ?_)<;>intro _)|((refine YC ?_ ?_)<;>intro _)|((refine YN ?_ ?_)<;>intro _))
   all_goals refine endsK_ret _ (.cons (.cellN rfl rfl rfl (Nat.le_of_ble_eq_true rfl)) (.cons (.tmp rfl) .nil)) ⟨rfl,?_⟩
   all_goals simp only [hez] at *
   all_goals have hle:(decide (((wordE s p - p:Nat):Int)≤40))=decide (wordE s p - p≤40):=(by rw [Bool.eq_iff_iff];simp only [decide_eq_true_eq];omega)
   all_goals rw [hle]
   ·rename_i hx
    have hw:isWord (s.extract p (wordE s p))=true:=decide_eq_true hx
    unfold oneS
    rw [if_pos hc,if_pos hw]
    rfl
   ·rename_i hx
    have hw:isWord (s.extract p (wordE s p))=false:=decide_eq_false hx
    unfold oneS
    rw [if_pos hc,if_neg (by rw [hw];decide)]
    rfl
 ·intro hc
  repeat' (first|((with_reducible apply RS.callP);(iterate 3 exact rfl);first|exact fun H=>(digit_tf _ H);exact Nm_free (by simp)|exact fun H=>(number_tf _ _ (by omega) hs H);exact Nm_free (by simp)|exact fun H=>(char_tf _ _ (by omega) hs H);exact Nm_free (by simp))|((with_reducible apply RS.callN true []);(iterate 3 exact rfl);exact fields_at hg.2 hn0)|((with_reducible first|apply RS.move|apply RS.assign|apply RS.lenSl);iterate 3 exact rfl)|refine Yu ?_|refine Y2d ?_|refine Y2 ?_|refine Y0 ?_|refine Yw ?_|refine Y1 ?_|((refine YD ?_ ?_)<;>intro _)|((refine YG ?_ ?_)<;>intro _)|((refine YC ?_ ?_)<;>intro _)|((refine YN ?_ ?_)<;>intro _))
  ·refine endsK_ret _ (.cons (.cellN rfl rfl rfl (Nat.le_of_ble_eq_true rfl)) (.cons (.tmp rfl) .nil)) ⟨rfl,?_⟩
   unfold oneS
   rw [if_neg (by simp [hc]),if_pos (by assumption)]
   rfl
  ·refine endsK_ret _ (.cons (.cellN rfl rfl rfl (Nat.le_of_ble_eq_true rfl)) (.cons (.tmp rfl) .nil)) ⟨rfl,?_⟩
   unfold oneS
   rw [if_neg (by simp [hc]),if_neg (by rw [‹digitI (chr s p)=false›];decide),if_pos (by assumption)]
   rfl
  ·have hone:oneS s p=(match signList.find? (signAt s p) with|some x=>(⟨4,⟨⟨x⟩⟩,p,0,false,false⟩,true)|none=>(zeroTok,false)):=by
    unfold oneS
    rw [if_neg (by simp [hc]),if_neg (by rw [‹digitI (chr s p)=false›];decide),if_neg (by assumption)]
    try rfl
   refine W.loop (X:=Nat) (fun π i=>[(0,.string s),(1,.int .i64 p),(4,.pointer (some ⟨π 0,0,none⟩)),(69,.slice (some ⟨π 1,0,none⟩) 45 45),(70,.int .i64 ((45:Nat):Int)),(71,.int .i64 i)]) (fun _=>h) (fun π x=>[(0,some ⟨⟨[.int .i64 0,.string ⟨#[]⟩,.int .i64 0,.int .u64 0,.bool false,.bool false]⟩,56⟩),(1,some ⟨⟨signV⟩,9⟩)]) (fun i=>signList.find? (signAt s p)=(signList.drop i).find? (signAt s p)∧i≤45) (fun i=>45 - i) [0,1] 0 ⟨rfl,by decide⟩ (by (refine FitL.mk ?_ ?_ ?_ ?_<;>(repeat' (first|exact trivial|exact rfl|apply And.intro));done)) ?_
   intro π i hI
   obtain ⟨q1,q2⟩:=hI
   by_cases hi:i < 45
   ·obtain ⟨x,hx⟩:∃ x,signList[i]?=some x:=⟨_,List.getElem?_eq_getElem (show i < signList.length from hi)⟩
    have hsv:signV[0+i * 1]?=some (.string ⟨⟨x⟩⟩):=by
     rw [Nat.zero_add,Nat.mul_one]
     unfold signV
     rw [List.getElem?_map,sign_eq,hx];rfl
    have hdr:signList.drop i=x::signList.drop (i+1):=by
     have hl:i < signList.length:=hi
     rw [List.drop_eq_getElem_cons hl]
     rw [List.getElem?_eq_getElem hl] at hx
     injection hx with hx
     rw [hx]
    repeat' (first|refine Yj ?_|refine Y3b ?_|refine Y39 ?_|refine Y30 ?_|refine Y4 ?_|refine Y6 ?_|refine Ye ?_|refine Y2 ?_|refine Yi ?_|refine Y0 ?_|(with_reducible first|apply W.seq|apply W.block|apply W.ret|apply W.skip|apply thenK_n|apply thenK_r|apply blockK_n|apply blockK_r|apply roundK_r)|refine Y1 ?_|refine Y5 ?_|((refine YD ?_ ?_)<;>intro _)|((refine YG ?_ ?_)<;>intro _)|((refine YC ?_ ?_)<;>intro _)|((refine YN ?_ ?_)<;>intro _))
    ·rename_i hx
     have hx':signAt s p x=true:=hx
     refine endsK_ret _ (.cons (.cellN rfl rfl rfl (Nat.le_of_ble_eq_true rfl)) (.cons (.tmp rfl) .nil)) ⟨rfl,?_⟩
     rw [hone,q1,hdr,List.find?_cons,hx']
     rfl
    ·rename_i hx
     have hx':signAt s p x=false:=hx
     exact roundK_n (i+1) [0,1] rfl rfl ⟨by rw [q1,hdr,List.find?_cons,hx'],by omega⟩ (by omega) (by (refine FitL.mk ?_ ?_ ?_ ?_<;>(repeat' (first|exact trivial|exact rfl|apply And.intro));done))
   ·repeat (first|refine Ys ?_|refine Y7 ?_|refine Y2 ?_|refine Yi ?_|refine Y0 ?_|refine Y2i ?_|refine Y1 ?_|refine Y3 ?_|refine Yf ?_)
    have hi45:i=45:=by omega
    subst hi45
    refine endsK_ret _ (.cons (.cellN rfl rfl rfl (Nat.le_of_ble_eq_true rfl)) (.cons (.tmp rfl) .nil)) ⟨rfl,?_⟩
    rw [hone,q1]
    rfl
end Go.Proofs.YtbmmchaaiakanaaDoor
namespace Go.Proofs.YtbmmchaaiakanaaDoor
theorem chr_in {s:ByteArray} {i:Nat} (h:0≤chr s i):i < s.size:=by
 by_cases h0:i < s.size
 ·exact h0
 ·rw [chr_ge h0] at h;exact absurd h (by decide)
theorem numL_le (s:ByteArray) (base:Nat):∀ n e v v' e',numL s base n e v=some (v',e')→e≤s.size→e≤e'∧e'≤s.size:=by
 intro n
 induction n with
 | zero=>intro e v v' e' h he;simp only [numL,Option.some.injEq,Prod.mk.injEq] at h;omega
 | succ n ih =>
  intro e v v' e' h he
  rw [numL] at h
  split at h
  ·rename_i hc
   split at h
   ·cases h
   ·have hw:e < s.size:=by
     by_cases h0:e < s.size
     ·exact h0
     ·rw [chr_ge h0] at hc;exact absurd hc.1 (by decide)
    have:=ih (e+1) _ v' e' h (by omega)
    omega
  ·simp only [Option.some.injEq,Prod.mk.injEq] at h;omega
def TokAt (s:ByteArray) (p:Nat) (t:TokS):Prop:=∃ e,p < e∧e≤s.size∧t.text=s.extract p e∧t.pos=p
theorem TokAt.size {s:ByteArray} {p:Nat} {t:TokS} (h:TokAt s p t):1≤t.text.size∧p+t.text.size≤s.size∧t.text=s.extract p (p+t.text.size):=by
 obtain ⟨e,h1,h2,h3,_⟩:=h
 have hs:t.text.size=e - p:=by rw [h3];simp;omega
 refine ⟨by omega,by omega,?_⟩
 rw [hs,h3];congr 1;omega
theorem numTail_at {s:ByteArray} {p v e:Nat} (hp:p < e) (he:e≤s.size):TokAt s p (numTail s p v e).1:=by
 have key:∀ q c,q≤s.size→(chr s q == c)=true→0≤c→q+1≤s.size:=by
  intro q c _ h1 h2
  have:chr s q=c:=by simpa using h1
  exact chr_in (by omega)
 unfold numTail
 refine ⟨_,?_,?_,rfl,rfl⟩
 ·repeat' split
  all_goals omega
 ·by_cases h1:(chr s e == 117)=true
  ·have:=key e 117 he h1 (by omega)
   rw [if_pos h1]
   split
   ·rename_i h2;exact key (e+1) 108 this h2 (by omega)
   ·exact this
  ·rw [if_neg h1]
   split
   ·rename_i h2;exact key e 108 he h2 (by omega)
   ·exact he
theorem numberR_at {s:ByteArray} {p base start:Nat} (h1:p≤start) (h2:start≤s.size) (hok:(numberR s p base start).2=true):TokAt s p (numberR s p base start).1:=by
 unfold numberR at hok ⊢
 split
 ·rename_i h;rw [h] at hok;cases hok
 ·rename_i v e h
  rw [h] at hok
  simp only at hok ⊢
  have hle:=numL_le s base _ _ _ _ _ h h2
  split
  ·rename_i h3;rw [if_pos h3] at hok;cases hok
  ·exact numTail_at (by omega) hle.2
theorem numberS_at {s:ByteArray} {p:Nat} (hp:p < s.size) (hok:(numberS s p).2=true):TokAt s p (numberS s p).1:=by
 unfold numberS at hok ⊢
 split
 ·rename_i h
  rw [if_pos h] at hok
  have h2:chr s (p+1)=120:=by
   unfold numHex at h
   simp only [Bool.and_eq_true,beq_iff_eq] at h
   exact h.2
  have:=chr_in (s:=s) (i:=p+1) (by omega)
  exact numberR_at (by omega) (by omega) hok
 ·rename_i h
  rw [if_neg h] at hok
  exact numberR_at (Nat.le_refl _) (by omega) hok
theorem charS_at {s:ByteArray} {p:Nat} (hok:(charS s p).2=true):TokAt s p (charS s p).1:=by
 unfold charS at hok ⊢
 split
 ·rename_i h
  rw [if_pos h] at hok
  have:=chr_in (s:=s) (i:=p+3) (by omega)
  split
  ·rename_i h1;rw [if_pos h1] at hok;cases hok
  ·exact ⟨p+4,by omega,by omega,rfl,rfl⟩
 ·rename_i h
  rw [if_neg h] at hok
  split
  ·rename_i h1
   have:=chr_in (s:=s) (i:=p+2) (by omega)
   exact ⟨p+3,by omega,by omega,rfl,rfl⟩
  ·rename_i h1;rw [if_neg h1] at hok;cases hok
theorem sign_ne:∀ x∈signList,1≤x.length:=by decide
theorem tl_take {s:ByteArray} {p n:Nat}:(s.extract p (p+n)).data.toList=(tl s p).take n:=by
 rw [tl_eq,Lib.extract_data]
 simp
theorem oneS_at {s:ByteArray} {p:Nat} (hp:p < s.size) (hok:(oneS s p).2=true):TokAt s p (oneS s p).1:=by
 unfold oneS at hok ⊢
 split
 ·rename_i h
  have h1:=wordE_step (s:=s) (p:=p) (by unfold wordyI;simp [h])
  have h2:=(wordE_le s _ (p+1) rfl)
  exact ⟨wordE s p,by omega,by have:=h2.2 (by omega);omega,rfl,rfl⟩
 ·rename_i h
  rw [if_neg h] at hok
  split
  ·rename_i h1;rw [if_pos h1] at hok;exact numberS_at hp hok
  ·rename_i h1
   rw [if_neg h1] at hok
   split
   ·rename_i h2;rw [if_pos h2] at hok;exact charS_at hok
   ·rename_i h2
    rw [if_neg h2] at hok
    split
    ·rename_i x hx
     have h3:=List.find?_some hx
     have h4:=sign_ne x (List.mem_of_find?_eq_some hx)
     have h5:x <+: tl s p:=by
      have:List.isPrefixOf x (tl s p)=true:=h3
      exact List.isPrefixOf_iff_prefix.1 this
     have h6:x.length≤(tl s p).length:=h5.length_le
     have h7:(tl s p).length=s.size - p:=by rw [tl_eq];simp
     refine ⟨p+x.length,by omega,by omega,?_,rfl⟩
     have h8:(s.extract p (p+x.length)).data.toList=x:=by rw [tl_take];exact (List.prefix_iff_eq_take.1 h5).symm
     show (⟨⟨x⟩⟩:ByteArray)=_
     generalize s.extract p (p+x.length)=q at h8
     cases q with
     | mk d=>cases d with
      | mk l=>simp only at h8;rw [h8]
    ·rename_i hx;rw [hx] at hok;cases hok
def endTok (p:Nat):TokS:=⟨0,⟨#[]⟩,p,0,false,false⟩
def scanF (s:ByteArray):Nat→Nat→List TokS→Except (Nat × Nat) (List TokS)
 | 0,p,_=>.error (10,p)
 | n+1,p,out=>match blankS s p with
  | (q,false)=>.error (10,q)
  | (q,true)=>if q=s.size then .ok (out++[endTok q]) else match oneS s q with
   | (_,false)=>.error (10,q)
   | (t,true)=>scanF s n (q+t.text.size) (out++[t])
def scanS (s:ByteArray):Except (Nat × Nat) (List TokS):=if 16384 < s.size then .error (2,16384) else scanF s (s.size+1) 0 []
theorem blankS_le (s:ByteArray) {p:Nat} (hp:p≤s.size):p≤(blankS s p).1∧(blankS s p).1≤s.size:=blankF2_le s _ p hp
end Go.Proofs.YtbmmchaaiakanaaDoor
