/-
  What the functions that the law reaches compute,told by plain data;it holds of programs that pass the check of right form and are light.
-/
import Derived.Test.YtgpigfcagppohaaGreatDoorR1
import Derived.Test.YtgpigfcagppohaaGreatDoorR31
import Derived.Test.YtgpigfcagppohaaGreatDoorS1
set_option linter.unusedVariables false
set_option linter.unusedSimpArgs false
namespace Go.Proofs.YtgpigfcagppohaaGreatDoor
open Go.AH
attribute [local irreducible] W RS
theorem prefix_take (l p:List UInt8):Lib.hasPrefix l p=(decide (p.length≤l.length) && (l.take p.length == p)):=by
 unfold Lib.hasPrefix
 rw [Bool.eq_iff_iff,List.isPrefixOf_iff_prefix,List.prefix_iff_eq_take]
 simp only [Bool.and_eq_true,decide_eq_true_eq,beq_iff_eq]
 constructor
 ·intro h
  refine ⟨?_,h.symm⟩
  have:=congrArg List.length h
  simp at this;omega
 ·intro h;exact h.2.symm
theorem lite_tf (s p:ByteArray) (h:Hp):TF Tryz.prog 140 ⟨[.string s,.string p]⟩ h (.bool (Lib.hasPrefix s.data.toList p.data.toList)) h:=by
 refine TF.still (fn:=Tryz.f140) (c:=(Tryz.f140.body.getD .skip)) Tryz.func140 (by kernel_rfl) Tryz.ntmps140 (by kernel_rfl) (by simp) ?_
 conv=>arg 2;whnf
 repeat' (first|refine Y19 ?_|refine Y7 ?_|refine Yd ?_|refine Yc ?_|refine Y2b ?_|refine Y2v ?_|refine Y1e ?_|refine Yk ?_|refine Y0 ?_|refine Yq ?_|refine Y1 ?_|((refine YD ?_ ?_)<;>intro _)|((refine YG ?_ ?_)<;>intro _)|((refine YC ?_ ?_)<;>intro _)|((refine YN ?_ ?_)<;>intro _))
 all_goals refine endsK_ret _ (.cons (.tmp rfl) .nil) ⟨rfl,?_⟩
 all_goals simp only [resultOf,Value.bool.injEq,prefix_take]
 ·rename_i hp
  have h1:p.data.toList.length=p.size:=by simp
  have h2:s.data.toList.length=s.size:=by simp
  rw [h1,h2,decide_eq_true hp]
  rw [Lib.extract_data];simp
 ·rename_i hp
  have h1:p.data.toList.length=p.size:=by simp
  have h2:s.data.toList.length=s.size:=by simp
  rw [h1,h2,decide_eq_false hp];rfl
theorem hasPrefix_tf (s p:ByteArray) (h:Hp):TF Tryz.prog 98 ⟨[.string s,.string p]⟩ h (.bool (Lib.hasPrefix s.data.toList p.data.toList)) h:=by
 refine TF.still (fn:=Tryz.f98) (c:=(Tryz.f98.body.getD .skip)) Tryz.func98 (by kernel_rfl) Tryz.ntmps98 (by kernel_rfl) (by simp) ?_
 conv=>arg 2;whnf
 repeat (first|((with_reducible apply RS.callP);(iterate 3 exact rfl);exact fun H=>(lite_tf _ _ H);exact Nm_free (by simp))|refine Y7 ?_|refine Y0 ?_|refine Yq ?_|refine Y1 ?_)
 all_goals refine endsK_ret _ (.cons (.tmp rfl) .nil) ⟨rfl,rfl⟩
section
variable {P:Program} {ops:Array Oper} {draw:Bool} {rs:List Rk} {l:List Oper} {fl:List (Nat × Value)} {nt:Nat} {h:SH} {K:Fr→SH→Prop} {d:Tmp} {ty:TypeId} {pos:String} {af:Array Edge} {gd:Option (Nat × Bool)}
theorem RS.indexChr {t:TypeId} {x y:Operand} {s:ByteArray} {k:IntKind} {i:Int} {n:Nat} [hu:TyU P t .string] (hw:wantB ops ⟨some d,.index t x y,ty,pos,af,gd⟩ ⟨fl,nt⟩=some true) (hd:Nat.blt d nt=true) (hx:Fr.ev ⟨fl,nt⟩ x=some (.string s)) (hy:Fr.ev ⟨fl,nt⟩ y=some (.int k i)) (hi:i=(n:Int)) (hn:n < s.size)
 (hk:RS P ops draw (recP h.k false [] (some [])::rs) l ⟨(d,.int .u8 (chr s n))::fl,nt⟩ h K):RS P ops draw rs (⟨some d,.index t x y,ty,pos,af,gd⟩::l) ⟨fl,nt⟩ h K:=by
 rw [chr_lt hn] at hk;exact RS.indexStr hw hd hx hy hi hn hk
end
def tokV (t:TokS):Value:=.agg ⟨[.int .i64 t.kind,.string t.text,.int .i64 t.pos,.int .u64 t.value,.bool t.uns,.bool t.long]⟩
theorem value_tn (c:Int) (h0:0≤c) (h1:c≤255) (h:Hp):TF Tryz.prog 143 ⟨[.int .u8 c]⟩ h (.int .u64 (valN c:Int)) h:=by rw [← valN_cast];exact value_tf c h0 h1 h
set_option maxHeartbeats 4000000 in
theorem number_tf (s:ByteArray) (p:Nat) (hp:p < s.size) (hs:s.size≤1000000) (h:Hp):TF Tryz.prog 104 ⟨[.string s,.int .i64 p]⟩ h (.tuple ⟨[tokV (numberS s p).1,.bool (numberS s p).2]⟩) h:=by
 refine TF.still (fn:=Tryz.f104) (c:=(Tryz.f104.body.getD .skip)) Tryz.func104 (by kernel_rfl) Tryz.ntmps104 (by kernel_rfl) (by (simp [tokV])) ?_
 conv=>arg 2;whnf
 repeat (first|refine Y19 ?_|refine Y66 ?_|refine Y7 ?_|refine Y2 ?_|refine Y9 ?_|refine Ya ?_|refine Y0 ?_|refine Y1x ?_|refine Y1 ?_)
 refine W.joinT (X:=Nat × Nat) (fun π x=>[(0,.string s),(1,.int .i64 p),(4,.pointer (some ⟨π 0,0,none⟩)),(6,.pointer (some ⟨π 1,0,none⟩)),(7,.int .i64 x.2),(8,.int .u64 x.1)]) (fun _=>h) (fun π x=>[(0,some ⟨⟨[.int .i64 0,.string ⟨#[]⟩,.int .i64 0,.int .u64 0,.bool false,.bool false]⟩,102⟩),(1,some ⟨⟨[.int .i64 3,.string ⟨#[]⟩,.int .i64 p,.int .u64 0,.bool false,.bool false]⟩,102⟩)]) (fun x=>numberS s p=numberR s p x.1 x.2∧p≤x.2∧x.2≤s.size∧(x.1=10∨x.1=16)) 2 ?_ ?_
 ·with_reducible apply W.cond
  exact rfl
  ·intro hx
   rw [hasP2 (by omega)] at hx
   repeat (first|refine Y7 ?_|((with_reducible apply RS.add2);(iterate 4 exact rfl);omega)|refine Y0 ?_|refine Y1 ?_)
   have hx':numHex s p=true:=hx
   have hlt:p+1 < s.size:=by
    rcases Nat.lt_or_ge (p+1) s.size with h1|h1
    ·exact h1
    ·simp only [Bool.and_eq_true,beq_iff_eq] at hx
     rw [chr_ge (i:=p+1) (by omega)] at hx
     exact absurd hx.2 (by decide)
   exact joinK_n (16,p+2) [0,1] rfl rfl ⟨by unfold numberS;rw [if_pos hx'],by simp only;omega,by simp only;omega,.inr rfl⟩ (by (refine FitL.mk ?_ ?_ ?_ ?_<;>(repeat' (first|exact trivial|exact rfl|apply And.intro));done))
  ·intro hx
   rw [hasP2 (by omega)] at hx
   repeat (first|(with_reducible apply W.skip))
   have hx':¬ numHex s p=true:=by unfold numHex;intro hc;rw [show (chr s p == 48 && chr s (p+1) == 120)=false from hx] at hc;cases hc
   exact joinK_n (10,p) [0,1] rfl rfl ⟨by unfold numberS;rw [if_neg hx'],by simp only;omega,by simp only;omega,.inl rfl⟩ (by (refine FitL.mk ?_ ?_ ?_ ?_<;>(repeat' (first|exact trivial|exact rfl|apply And.intro));done))
 ·intro π x hI
  obtain ⟨base,start⟩:=x
  obtain ⟨h1,h2,h3,h4⟩:=hI
  simp only at h1 h2 h3 h4
  dsimp only
  repeat (first|refine Y7 ?_|refine Y0 ?_|refine Y41 ?_|refine Y1 ?_)
  refine W.joinB (X:=Nat × Nat) (fun π x=>[(0,.string s),(1,.int .i64 p),(4,.pointer (some ⟨π 0,0,none⟩)),(6,.pointer (some ⟨π 1,0,none⟩)),(7,.int .i64 x.2),(9,.int .i64 start)]) (fun _=>h) (fun π x=>[(0,some ⟨⟨[.int .i64 0,.string ⟨#[]⟩,.int .i64 0,.int .u64 0,.bool false,.bool false]⟩,102⟩),(1,some ⟨⟨[.int .i64 3,.string ⟨#[]⟩,.int .i64 p,.int .u64 x.1,.bool false,.bool false]⟩,102⟩)]) (fun x=>numL s base (s.size - start) start 0=some x∧start≤x.2∧x.2≤s.size) 2 ?_ ?_
  ·refine W.loop (X:=Nat × Nat) (fun π x=>[(0,.string s),(1,.int .i64 p),(4,.pointer (some ⟨π 0,0,none⟩)),(6,.pointer (some ⟨π 1,0,none⟩)),(7,.int .i64 x.2),(8,.int .u64 base),(9,.int .i64 start)]) (fun _=>h) (fun π x=>[(0,some ⟨⟨[.int .i64 0,.string ⟨#[]⟩,.int .i64 0,.int .u64 0,.bool false,.bool false]⟩,102⟩),(1,some ⟨⟨[.int .i64 3,.string ⟨#[]⟩,.int .i64 p,.int .u64 x.1,.bool false,.bool false]⟩,102⟩)]) (fun x=>numL s base (s.size - start) start 0=numL s base (s.size - x.2) x.2 x.1∧start≤x.2∧x.2≤s.size∧x.1≤18446744073709551615) (fun x=>s.size - x.2) [0,1] (0,start) ⟨rfl,by simp only;omega,by simp only;omega,by simp only;omega⟩ (by (refine FitL.mk ?_ ?_ ?_ ?_<;>(repeat' (first|exact trivial|exact rfl|apply And.intro));done)) ?_
   intro π x hI
   obtain ⟨v,k⟩:=x
   obtain ⟨q1,q2,q3,q4⟩:=hI
   dsimp only at q1 q2 q3 q4 ⊢
   have hvl:=valN_le (chr s k)
   repeat (first|refine Y11 ?_|refine Y2b ?_|refine Y1e ?_|(with_reducible apply W.seq)|refine Y1 ?_)
   rcases h4 with rfl|rfl
   all_goals repeat' ((first|((refine YD ?_ ?_)<;>intro _)|((refine YG ?_ ?_)<;>intro _)|((refine YC ?_ ?_)<;>intro _)|((refine YN ?_ ?_)<;>intro _))<;>repeat (first|refine Y4i ?_|((with_reducible apply RS.callP);(iterate 3 exact rfl);first|exact fun H=>(digit_tf _ H);exact Nm_free (by simp)|exact fun H=>(letter_tf _ H);exact Nm_free (by simp)|exact fun H=>(value_tn _ (chr_nn (by omega)) (chr_le _ _) H);exact Nm_free (by simp))|refine Yu ?_|refine Yd ?_|refine Yc ?_|refine Y2b ?_|refine Yp ?_|((with_reducible apply RS.addU);(iterate 4 exact rfl);(first|omega|assumption))|((with_reducible apply RS.subUM);(iterate 4 exact rfl);omega)|((with_reducible apply RS.mulU);(iterate 4 exact rfl);(first|omega|assumption))|((with_reducible apply RS.quoU);(iterate 4 exact rfl);omega)|refine Yh ?_|refine Y2 ?_|refine Ya ?_|refine Yk ?_|refine Y0 ?_|(with_reducible first|apply W.seq|apply W.block|apply W.exit|apply W.ret|apply W.skip|apply thenK_n|apply thenK_e|apply thenK_r|apply blockK_n|apply blockK_r|apply roundK_e|apply roundK_r|apply joinK_r)|refine Y1 ?_|refine Y5 ?_|refine Y3 ?_|refine Yn ?_|refine Y42 ?_))
   all_goals first
    | exact joinK_n (v,k) [0,1] rfl rfl ⟨by rw [q1,numL_end ‹¬ k < s.size›],q2,q3⟩ (by (refine FitL.mk ?_ ?_ ?_ ?_<;>(repeat' (first|exact trivial|exact rfl|apply And.intro));done))
    | exact joinK_n (v,k) [0,1] rfl rfl ⟨by rw [q1,numL_step ‹k < s.size›,if_neg (fun hc=>by have:=hc.2;omega)],q2,q3⟩ (by (refine FitL.mk ?_ ?_ ?_ ?_<;>(repeat' (first|exact trivial|exact rfl|apply And.intro));done))
    | exact joinK_n (v,k) [0,1] rfl rfl ⟨by rw [q1,numL_step ‹k < s.size›,if_neg (fun hc=>by simp [wordyI, *] at hc)],q2,q3⟩ (by (refine FitL.mk ?_ ?_ ?_ ?_<;>(repeat' (first|exact trivial|exact rfl|apply And.intro));done))
    | (refine endsK_ret _ (.cons (.cellN rfl rfl rfl (Nat.le_of_ble_eq_true rfl)) (.cons (.tmp rfl) .nil)) ⟨rfl,?_⟩;rw [h1,numberR,q1,numL_step ‹k < s.size›,if_pos ⟨by simp [wordyI, *],by omega⟩,if_pos (by assumption)];rfl)
    | (refine roundK_n (v * 10+valN (chr s k),k+1) [0,1] rfl rfl ⟨?_,?_,?_,?_⟩ ?_ ?_;(rw [q1,numL_step ‹k < s.size›,if_pos ⟨by simp [wordyI, *],by omega⟩,if_neg (by assumption)]);(simp only;omega);(simp only;omega);(simp only;omega);(simp only;omega);((refine FitL.mk ?_ ?_ ?_ ?_<;>(repeat' (first|exact trivial|exact rfl|apply And.intro));done)))
    | (refine roundK_n (v * 16+valN (chr s k),k+1) [0,1] rfl rfl ⟨?_,?_,?_,?_⟩ ?_ ?_;(rw [q1,numL_step ‹k < s.size›,if_pos ⟨by simp [wordyI, *],by omega⟩,if_neg (by assumption)]);(simp only;omega);(simp only;omega);(simp only;omega);(simp only;omega);((refine FitL.mk ?_ ?_ ?_ ?_<;>(repeat' (first|exact trivial|exact rfl|apply And.intro));done)))
  ·intro π x hI
   obtain ⟨v,k⟩:=x
   obtain ⟨q1,q2,q3⟩:=hI
   dsimp only at q1 q2 q3 ⊢
   repeat' (first|refine Y19 ?_|refine Y4i ?_|refine Y4g ?_|refine Y2o ?_|refine Yd ?_|refine Yc ?_|refine Y6 ?_|refine Y4 ?_|refine Yo ?_|refine Y2b ?_|refine Yp ?_|refine Y1e ?_|refine Yg ?_|refine Y2 ?_|refine Ya ?_|refine Yk ?_|refine Y0 ?_|refine Y1p ?_|refine Y1 ?_|refine Y3 ?_|((refine YD ?_ ?_)<;>intro _)|((refine YG ?_ ?_)<;>intro _)|((refine YC ?_ ?_)<;>intro _)|((refine YN ?_ ?_)<;>intro _))
   all_goals refine endsK_ret _ (.cons (.cellN rfl rfl rfl (Nat.le_of_ble_eq_true rfl)) (.cons (.tmp rfl) .nil)) ⟨rfl,?_⟩
   all_goals rw [h1,numberR,q1]
   all_goals have e1:chr s s.size=-1:=chr_ge (by omega)
   all_goals have e2:∀ i,s.size≤i→chr s i=-1:=fun i hi=>chr_ge (by omega)
   all_goals simp only
   all_goals split
   all_goals first|(exact absurd ‹k=start› (by assumption))|skip
   ·rfl
   all_goals simp only [resultOf,numTail,tokV,wordyI]
   all_goals (try simp only [Nat.not_lt] at *)
   all_goals simp [*,takeV,setL,cellsV]
   all_goals exact ⟨by decide,by decide⟩
def GL (h:Hp):Prop:=∃ m e,h.m 1=some ⟨⟨[.int .i64 m]⟩,e⟩
theorem GL.of {h H:Hp} (hg:GL h) (hn:1 < h.n) (hb:∀ id,id < h.n→H.m id=h.m id):GL H:=by
 obtain ⟨m,e,h2⟩:=hg
 exact ⟨m,e,by rw [hb _ hn];exact h2⟩
theorem GL.tf {P:Program} {h h':Hp} {g:FuncId} {args:Array Value} {v:Value} (hg:GL h) (ht:1 < h.n→TF P g args h v h'):TF P g args h v h':=by
 intro ha ρ W hok
 obtain ⟨m,e,h2⟩:=hg
 exact ht (hok.lt _ _ h2) ha ρ W hok
theorem GL.cell {h:Hp} (hg:GL h) {ρ:Env} {W:World} (ho:HOK Tryz.prog.globals.size h ρ W):∃ m,W.cell? ⟨1,0,none⟩=some (.int .i64 m):=by
 obtain ⟨m,e,h2⟩:=hg
 have hc:=ho.cell (a:=⟨1,0,none⟩) h2 rfl (v:=.int .i64 m) rfl
 refine ⟨m,?_⟩
 obtain ⟨hl,hs⟩:=ho.glob 1 (by decide +kernel)
 simpa [renAddr,hl,hs] using hc
theorem indexByte_tf (s:ByteArray) (c:Int) (h:Hp):TF Tryz.prog 99 ⟨[.string s,.int .u8 c]⟩ h (.int .i64 (Lib.indexByte s.data.toList c.toNat.toUInt8)) h :=
 TF.of_same (by simp) (by simp) fun _ W _=>Tryz.strings_IndexByte s c W
theorem index_tf (s t:ByteArray) (hs:s.size < 4294967281) (h:Hp) (hg:GL h):TF Tryz.prog 100 ⟨[.string s,.string t]⟩ h (.int .i64 (Lib.index s.data.toList t.data.toList)) h :=
 TF.of_same (by simp) (by simp) fun _ W ho=>by
  obtain ⟨m,hm⟩:=hg.cell ho
  exact Tryz.strings_Index s t m W hs hm
theorem contains_tf (s t:ByteArray) (hs:s.size < 4294967281) (h:Hp) (hg:GL h):TF Tryz.prog 103 ⟨[.string s,.string t]⟩ h (.bool (Lib.contains s.data.toList t.data.toList)) h :=
 TF.of_same (by simp) (by simp) fun _ W ho=>by
  obtain ⟨m,hm⟩:=hg.cell ho
  exact Tryz.strings_Contains s t m W hs hm
theorem nl_tf (s:ByteArray) (p:Nat) (hp:p≤s.size) (h:Hp):TF Tryz.prog 99 ⟨[.string (s.extract p s.size),.int .u8 10]⟩ h (.int .i64 (if nl s p < s.size then ((nl s p - p:Nat):Int) else -1)) h:=by
 have:=indexByte_tf (s.extract p s.size) 10 h
 rw [show (s.extract p s.size).data.toList=tl s p from rfl,show ((10:Int).toNat.toUInt8)=10 from rfl,ixB_nl s _ p rfl hp] at this
 exact this
theorem end_tf (s:ByteArray) (p:Nat) (hp:p≤s.size) (hs:s.size≤1000000) (h:Hp) (hg:GL h):TF Tryz.prog 100 ⟨[.string (s.extract p s.size),.string ⟨#[42,47]⟩]⟩ h (.int .i64 (endI s p)) h:=by
 have:=index_tf (s.extract p s.size) ⟨#[42,47]⟩ (by simp;omega) h hg
 rw [show (s.extract p s.size).data.toList=tl s p from rfl,show ((⟨#[42,47]⟩:ByteArray).data.toList)=[42,47] from rfl,ix_end s _ p rfl hp] at this
 exact this
theorem esc_tf (c:Int) (h0:0≤c) (h1:c≤255) (h:Hp):TF Tryz.prog 99 ⟨[.string ⟨#[110,116,48,92,39]⟩,.int .u8 c]⟩ h (.int .i64 (escI c)) h:=by
 have:=indexByte_tf ⟨#[110,116,48,92,39]⟩ c h
 rw [show ((⟨#[110,116,48,92,39]⟩:ByteArray).data.toList)=[110,116,48,92,39] from rfl,esc_ix c h0 h1] at this
 exact this
theorem hp2_tf (s:ByteArray) (p:Nat) (a b:UInt8) (hp:p≤s.size) (h:Hp):TF Tryz.prog 98 ⟨[.string (s.extract p s.size),.string ⟨#[a,b]⟩]⟩ h (.bool (decide (chr s p=(a.toNat:Int)∧chr s (p+1)=(b.toNat:Int)))) h:=by
 have:=hasPrefix_tf (s.extract p s.size) ⟨#[a,b]⟩ h
 rw [show ((⟨#[a,b]⟩:ByteArray).data.toList)=[a,b] from rfl,hasP2 hp] at this
 have e:(chr s p == (a.toNat:Int) && chr s (p+1) == (b.toNat:Int))=decide (chr s p=(a.toNat:Int)∧chr s (p+1)=(b.toNat:Int)):=by
  rw [Bool.eq_iff_iff];simp
 rw [e] at this
 exact this
theorem blank_tf (s:ByteArray) (p:Nat) (hp:p≤s.size) (hs:s.size≤1000000) (h:Hp) (hg:GL h):TF Tryz.prog 55 ⟨[.string s,.int .i64 p]⟩ h (.tuple ⟨[.int .i64 (blankS s p).1,.bool (blankS s p).2]⟩) h:=by
 refine hg.tf fun hn=>?_
 refine TF.still (fn:=Tryz.f55) (c:=(Tryz.f55.body.getD .skip)) Tryz.func55 (by kernel_rfl) Tryz.ntmps55 (by kernel_rfl) (by simp) ?_
 conv=>arg 2;whnf
 repeat (first|refine Yw ?_|refine Y0 ?_|refine Y41 ?_|refine Y1 ?_)
 refine W.loop (X:=Nat × Nat) (fun π x=>[(0,.string s),(1,.int .i64 x.1)]) (fun _=>h) (fun π x=>[]) (fun x=>blankF2 s x.2 x.1=blankS s p∧x.1≤s.size∧s.size≤x.1+x.2) (fun x=>s.size - x.1) [] (p,s.size - p) ⟨rfl,hp,by simp only;omega⟩ (by (refine FitL.mk ?_ ?_ ?_ ?_<;>(repeat' (first|exact trivial|exact rfl|apply And.intro));done)) ?_
 intro π x hI
 obtain ⟨k,n⟩:=x
 obtain ⟨q1,q2,q3⟩:=hI
 dsimp only at q1 q2 q3 ⊢
 have hnl:=nl_ge s _ k rfl
 have heI:-1≤endI s (k+2)∧endI s (k+2)≤1000000:=by
  unfold endI
  cases he:endC s (k+2) with
  | none=>simp only;omega
  | some i=>have:=endC_ok s _ _ i rfl he;simp only;omega
 repeat' (first|refine Y19 ?_|refine Y4i ?_|((with_reducible apply RS.callP);(iterate 3 exact rfl);first|exact fun H=>(nl_tf _ _ (by omega) H);exact Nm_free (by simp)|exact fun H=>(hp2_tf _ _ _ _ (by omega) H);exact Nm_free (by simp))|refine Y7 ?_|refine Yd ?_|refine Yc ?_|refine Yo ?_|refine Y2b ?_|refine Yp ?_|((with_reducible apply RS.add2);(iterate 4 exact rfl);omega)|refine Y1q ?_|refine Y1e ?_|refine Yk ?_|refine Y0 ?_|(with_reducible first|apply W.seq|apply W.block|apply W.exit|apply W.ret|apply W.skip|apply thenK_n|apply thenK_e|apply thenK_r|apply blockK_n|apply blockK_r|apply roundK_e|apply roundK_r)|refine Y1 ?_|refine Y5 ?_|refine Yn ?_|((refine YD ?_ ?_)<;>intro _)|((refine YG ?_ ?_)<;>intro _)|((refine YC ?_ ?_)<;>intro _)|((refine YN ?_ ?_)<;>intro _))
 all_goals first
  | (exfalso;omega)
  | skip
 rotate_left 6
 ·rename_i hc
  have hk1:k+1 < s.size:=by
   by_cases h0:k+1 < s.size
   ·exact h0
   ·rw [chr_ge h0] at hc;exact absurd hc.2 (by decide)
  repeat' (first|refine Y19 ?_|((with_reducible apply RS.callR true []);(iterate 3 exact rfl);exact fun H hH=>end_tf _ _ (by omega) hs H (hg.of hn (hH.b rfl));exact Nm_free (by simp))|refine Y7 ?_|refine Yo ?_|refine Y1q ?_|refine Y0 ?_|(with_reducible first|apply W.seq|apply W.ret|apply W.skip|apply thenK_n|apply thenK_r|apply blockK_n|apply blockK_r|apply roundK_r)|refine Y1 ?_|((refine YD ?_ ?_)<;>intro _)|((refine YG ?_ ?_)<;>intro _)|((refine YC ?_ ?_)<;>intro _)|((refine YN ?_ ?_)<;>intro _))
  all_goals obtain ⟨m,rfl⟩:∃ m,n=m+1:=⟨n - 1,by omega⟩
  all_goals rw [blankF2,if_neg (by simp [blankI, *]),if_neg (by assumption),if_pos (by assumption)] at q1
  ·rename_i he
   unfold endI at he
   cases hq:endC s (k+2) with
   | none =>
    rw [hq] at q1
    refine endsK_ret _ (.cons (.tmp rfl) (.cons (.tmp rfl) .nil)) ⟨rfl,?_⟩
    rw [← q1];rfl
   | some i=>rw [hq] at he;simp only at he;omega
  ·rename_i he
   cases hq:endC s (k+2) with
   | none=>unfold endI at he;rw [hq] at he;simp only at he;omega
   | some i =>
    rw [hq] at q1
    have hv:endI s (k+2)=((i - (k+2):Nat):Int):=by unfold endI;rw [hq]
    have hi:=endC_ok s _ _ i rfl hq
    refine roundK_n (i+2,m) [] rfl rfl ⟨q1,by simp only;omega,by simp only;omega⟩ (by simp only;omega) ⟨⟨rfl,?_,trivial⟩,rfl,trivial,rfl⟩
    show some (Value.int IntKind.i64 (_:Int))=some (Value.int IntKind.i64 (_:Int))
    congr 2
    rw [hv];simp only;omega
 ·obtain ⟨m,rfl⟩:∃ m,n=m+1:=⟨n - 1,by omega⟩
  rw [blankF2,if_neg (by simp [blankI, *]),if_neg (by assumption),if_neg (by assumption)] at q1
  refine endsK_ret _ (.cons (.tmp rfl) (.cons (.tmp rfl) .nil)) ⟨rfl,?_⟩
  rw [← q1];rfl
 ·rw [blankF2_end (by assumption)] at q1
  refine endsK_ret _ (.cons (.tmp rfl) (.cons (.tmp rfl) .nil)) ⟨rfl,?_⟩
  rw [← q1];rfl
 iterate 4
  obtain ⟨m,rfl⟩:∃ m,n=m+1:=⟨n - 1,by omega⟩
  rw [blankF2,if_pos (by simp [blankI, *])] at q1
  refine roundK_n (k+1,m) [] rfl rfl ⟨q1,by simp only;omega,by simp only;omega⟩ (by simp only;omega) (by (refine FitL.mk ?_ ?_ ?_ ?_<;>(repeat' (first|exact trivial|exact rfl|apply And.intro));done))
 ·rename_i he
  obtain ⟨m,rfl⟩:∃ m,n=m+1:=⟨n - 1,by omega⟩
  rw [blankF2,if_neg (by simp [blankI, *]),if_pos (by assumption)] at q1
  have hz:nl s k=s.size:=by
   by_cases h0:nl s k < s.size
   ·rw [if_pos h0] at he;omega
   ·have:=hnl.2.1 q2;omega
  rw [hz,blankF2_end (by omega)] at q1
  refine endsK_ret _ (.cons (.tmp rfl) (.cons (.tmp rfl) .nil)) ⟨rfl,?_⟩
  rw [← q1];rfl
 ·rename_i hc he
  obtain ⟨m,rfl⟩:∃ m,n=m+1:=⟨n - 1,by omega⟩
  rw [blankF2,if_neg (by simp [blankI, *]),if_pos (by assumption)] at q1
  have hz:nl s k < s.size:=by
   by_cases h0:nl s k < s.size
   ·exact h0
   ·rw [if_neg h0] at he;omega
  have hgt:=nl_gt hc.1
  refine roundK_n (nl s k,m) [] rfl rfl ⟨q1,by simp only;omega,by simp only;omega⟩ (by simp only;omega) ⟨⟨rfl,?_,trivial⟩,rfl,trivial,rfl⟩
  show some (Value.int IntKind.i64 (_:Int))=some (Value.int IntKind.i64 (_:Int))
  rw [if_pos hz]
  congr 2
  simp only;omega
section
variable {P:Program} {ops:Array Oper} {draw:Bool} {rs:List Rk} {l:List Oper} {fl:List (Nat × Value)} {nt:Nat} {h:SH} {K:Fr→SH→Prop} {d:Tmp} {ty:TypeId} {pos:String} {af:Array Edge} {gd:Option (Nat × Bool)}
theorem RS.indexChr0 {t:TypeId} {x y:Operand} {s:ByteArray} {k:IntKind} [hu:TyU P t .string] (hw:wantB ops ⟨some d,.index t x y,ty,pos,af,gd⟩ ⟨fl,nt⟩=some true) (hd:Nat.blt d nt=true) (hx:Fr.ev ⟨fl,nt⟩ x=some (.string s)) (hy:Fr.ev ⟨fl,nt⟩ y=some (.int k 0)) (hn:0 < s.size)
 (hk:RS P ops draw (recP h.k false [] (some [])::rs) l ⟨(d,.int .u8 (chr s 0))::fl,nt⟩ h K):RS P ops draw rs (⟨some d,.index t x y,ty,pos,af,gd⟩::l) ⟨fl,nt⟩ h K:=RS.indexChr (n:=0) hw hd hx hy rfl hn hk
theorem RS.indexChr1 {t:TypeId} {x y:Operand} {s:ByteArray} {k:IntKind} [hu:TyU P t .string] (hw:wantB ops ⟨some d,.index t x y,ty,pos,af,gd⟩ ⟨fl,nt⟩=some true) (hd:Nat.blt d nt=true) (hx:Fr.ev ⟨fl,nt⟩ x=some (.string s)) (hy:Fr.ev ⟨fl,nt⟩ y=some (.int k 1)) (hn:1 < s.size)
 (hk:RS P ops draw (recP h.k false [] (some [])::rs) l ⟨(d,.int .u8 (chr s 1))::fl,nt⟩ h K):RS P ops draw rs (⟨some d,.index t x y,ty,pos,af,gd⟩::l) ⟨fl,nt⟩ h K:=RS.indexChr (n:=1) hw hd hx hy rfl hn hk
theorem RS.indexChr2 {t:TypeId} {x y:Operand} {s:ByteArray} {k:IntKind} [hu:TyU P t .string] (hw:wantB ops ⟨some d,.index t x y,ty,pos,af,gd⟩ ⟨fl,nt⟩=some true) (hd:Nat.blt d nt=true) (hx:Fr.ev ⟨fl,nt⟩ x=some (.string s)) (hy:Fr.ev ⟨fl,nt⟩ y=some (.int k 2)) (hn:2 < s.size)
 (hk:RS P ops draw (recP h.k false [] (some [])::rs) l ⟨(d,.int .u8 (chr s 2))::fl,nt⟩ h K):RS P ops draw rs (⟨some d,.index t x y,ty,pos,af,gd⟩::l) ⟨fl,nt⟩ h K:=RS.indexChr (n:=2) hw hd hx hy rfl hn hk
end
theorem esc_size (c:Int):(escI c).toNat < (⟨#[10,9,0,92,39]⟩:ByteArray).size:=by
 show (escI c).toNat < 5
 unfold escI
 repeat' split
 all_goals decide
theorem esc_val (c:Int) (h:¬ escI c < 0):IntKind.u64.wrap (chr ⟨#[10,9,0,92,39]⟩ (escI c).toNat)=(escV c:Int):=by
 unfold escI escV at *
 by_cases h1:c=110
 ·simp only [h1,if_true];decide +kernel
 by_cases h2:c=116
 ·subst h2;decide +kernel
 by_cases h3:c=48
 ·subst h3;decide +kernel
 by_cases h4:c=92
 ·subst h4;decide +kernel
 by_cases h5:c=39
 ·subst h5;decide +kernel
 ·simp [h1,h2,h3,h4,h5] at h
set_option maxHeartbeats 4000000 in
theorem char_tf (s:ByteArray) (p:Nat) (hp:p < s.size) (hs:s.size≤1000000) (h:Hp):TF Tryz.prog 105 ⟨[.string s,.int .i64 p]⟩ h (.tuple ⟨[tokV (charS s p).1,.bool (charS s p).2]⟩) h:=by
 have hz:=size_tail s (p:=p+1)
 have ht:∀ i,chr (s.extract (p+1) s.size) i=chr s (p+1+i):=fun i=>chr_tail
 refine TF.still (fn:=Tryz.f105) (c:=(Tryz.f105.body.getD .skip)) Tryz.func105 (by kernel_rfl) Tryz.ntmps105 (by kernel_rfl) (by (simp [tokV])) ?_
 conv=>arg 2;whnf
 repeat (first|refine Y19 ?_|refine Y7 ?_|refine Yo ?_|refine Yp ?_|refine Y1e ?_|refine Y9 ?_|refine Y0 ?_|refine Y1x ?_|refine Y1 ?_)
 generalize s.extract (p+1) s.size=r at *
 have t0:chr r 0=chr s (p+1):=ht 0
 have t1:chr r 1=chr s (p+2):=ht 1
 have t2:chr r 2=chr s (p+3):=ht 2
 have c3:¬ ((r.size:Int) ≥ 3)→chr s (p+3)=-1:=fun hx=>chr_ge (by omega)
 have c2:¬ ((r.size:Int) ≥ 2)→chr s (p+2)=-1:=fun hx=>chr_ge (by omega)
 repeat' ((first|((refine YD ?_ ?_)<;>intro _)|((refine YG ?_ ?_)<;>intro _)|((refine YC ?_ ?_)<;>intro _)|((refine YN ?_ ?_)<;>intro _))<;>repeat (first|refine Y19 ?_|((with_reducible apply RS.indexChr0);(iterate 4 exact rfl);omega)|((with_reducible apply RS.indexChr1);(iterate 4 exact rfl);omega)|((with_reducible apply RS.indexChr2);(iterate 4 exact rfl);omega)|((with_reducible apply RS.callP);(iterate 3 exact rfl);exact fun H=>(esc_tf _ (chr_nn (by omega)) (chr_le _ _) H);exact Nm_free (by simp))|((with_reducible apply RS.indexChr);(iterate 4 exact rfl);exact (Int.toNat_of_nonneg (by omega)).symm;exact esc_size _)|((with_reducible first|apply RS.move|apply RS.assign|apply RS.convI);iterate 3 exact rfl)|refine Yd ?_|refine Yc ?_|refine Y6 ?_|refine Y4 ?_|refine Yo ?_|((with_reducible apply RS.add3);(iterate 4 exact rfl);omega)|((with_reducible apply RS.add4);(iterate 4 exact rfl);omega)|refine Y1e ?_|refine Y2 ?_|refine Ya ?_|refine Yk ?_|refine Y0 ?_|refine Y1p ?_|refine Y1 ?_|refine Y5 ?_|refine Y3 ?_))
 all_goals refine endsK_ret _ (.cons (.cellN rfl rfl rfl (Nat.le_of_ble_eq_true rfl)) (.cons (.tmp rfl) .nil)) ⟨rfl,?_⟩
 all_goals simp only [t0,t1,t2,bne_iff_ne,ne_eq,bne_eq_false_iff_eq,Int.not_lt,Int.not_le,ge_iff_le] at *
 all_goals unfold charS
 all_goals (repeat' split)
 all_goals first
  | (exfalso;omega)
  | rfl
  | (have e:=esc_val (chr s (p+2)) (by omega);simp [resultOf,tokV,takeV,setL,cellsV,e];done)
  | (have e : IntKind.u64.wrap (chr s (p + 1)) = ((chr s (p + 1)).toNat : Int) := (by rw [wrap_u64 (by omega) (by omega)]; omega)
     simp [resultOf,tokV,takeV,setL,cellsV,e];done)
  | trace_state
end Go.Proofs.YtgpigfcagppohaaGreatDoor
