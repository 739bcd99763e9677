/-
  What the functions that the law reaches compute,told by plain data;it holds of programs that pass the check of right form and are light.
-/
import Derived.Test.YtjhloakacicdiaaR1
import Derived.Test.YtjhloakacicdiaaS2
set_option linter.unusedVariables false
set_option linter.unusedSimpArgs false
namespace Go.Proofs.Ytjhloakacicdiaa
open Go.AH
attribute [local irreducible] W RS
def wordC (w:BitVec 64):Value:=.int .u64 (w.toNat:Int)
def setC (s:SetS):List Value:=s.map wordC
@[simp] theorem setC_length (s:SetS):(setC s).length=s.length:=by simp [setC]
theorem setC_free (s:SetS):∀ v∈setC s,bnd 0 v:=by
  intro v hv
  obtain ⟨w,_,rfl⟩:=List.mem_map.1 hv
  simp [wordC]
theorem setC_get {s:SetS} {i:Nat} {w:BitVec 64} (h:s[i]?=some w):(setC s)[i]?=some (.int .u64 (w.toNat:Int)):=by simp [setC,h,wordC]
inductive SetAt (h:Hp):Option Addr→SetS→Prop
  | none:SetAt h none []
  | some {b:Nat} {s:SetS} (hm:h.m b=some ⟨⟨setC s⟩,78⟩) (hr:rwM≤b):SetAt h (some ⟨b,0,none⟩) s
def setH (h:Hp) (A:Option Addr) (s:SetS):Hp:=match A with
  | some a=>h.set a.block ⟨⟨setC s⟩,78⟩
  | none=>h
theorem setC_set {s:SetS} {k:Nat} {f:BitVec 64→BitVec 64} {w:BitVec 64} (h:s[k]?=some w):setL (setC s) (0+k * 1) [.int .u64 ((f w).toNat:Int)]=setC (s.modify k f):=by
  rw [Nat.zero_add,Nat.mul_one]
  rw [setL_cons,setL_nil]
  apply List.ext_getElem?
  intro i
  rw [List.getElem?_set]
  unfold setC
  simp only [List.getElem?_map,mod_get]
  obtain ⟨hk,h2⟩:=List.getElem?_eq_some_iff.1 h
  by_cases e:k=i
  · subst e
    simp [hk,wordC,h2]
  · simp [e]
theorem setC_put {s:SetS} {i:Int} {w:BitVec 64} (h:s[i.toNat / 64]?=some w) (h0:0≤i):setL (setC s) (0+i.toNat / 64 * 1) [.int .u64 ((w ||| 1#64 <<< (i.toNat % 64)).toNat:Int)]=setC (putS s i):=by
  unfold putS
  rw [if_pos h0]
  exact setC_set (f:=fun w=>w ||| bitS i.toNat) (w:=w) h
theorem setC_out {s:SetS} {i:Int} {w:BitVec 64} (h:s[i.toNat / 64]?=some w) (h0:0≤i):setL (setC s) (0+i.toNat / 64 * 1) [.int .u64 ((w &&& ~~~ (1#64 <<< (i.toNat % 64))).toNat:Int)]=setC (outS s i):=by
  unfold outS
  rw [if_pos h0]
  exact setC_set (f:=fun w=>w &&& ~~~ bitS i.toNat) (w:=w) h
theorem bit_and (w:BitVec 64) (k:Nat):((((w >>> k) &&& 1#64).toNat:Int) == 1)=w.getLsbD k:=by
  have h4:(w >>> k) &&& 1#64=if w.getLsbD k then 1#64 else 0#64:=by
    apply BitVec.eq_of_getLsbD_eq
    intro i hi
    simp only [BitVec.getLsbD_and,BitVec.getLsbD_ushiftRight,BitVec.getLsbD_one]
    cases hw:w.getLsbD k<;>by_cases hi0:i=0<;>simp [hi0,hw]
  rw [h4]
  cases w.getLsbD k<;>decide
theorem has_tf (s:SetS) (A:Option Addr) (c:Nat) (i:Int) (hi:fitI i) (hl:s.length≤1000000000) (h:Hp) (hs:SetAt h A s):TF Try.prog 12 ⟨[.slice A s.length c,.int .i64 i]⟩ h (.bool (hasS s i)) h:=by
  obtain ⟨h0,h1⟩:=hi
  cases hs with
  | none =>
    refine TF.still (fn:=Try.f12) (c:=(Try.f12.body.getD .skip)) Try.func12 (by kernel_rfl) Try.ntmps12 (by kernel_rfl) (by simp) ?_
    conv=>arg 2;whnf
    repeat' (first|((with_reducible apply RS.quo64);(iterate 3 exact rfl);omega)|((with_reducible first|apply RS.move|apply RS.assign|apply RS.lenSl);iterate 3 exact rfl)|((with_reducible apply RS.pickT);iterate 4 exact rfl)|((with_reducible apply RS.pickF);iterate 4 exact rfl)|((with_reducible apply RS.cmpC);iterate 5 exact rfl)|((with_reducible apply RS.cmpNat);iterate 5 exact rfl)|((with_reducible apply RS.skip);iterate 2 exact rfl)|((with_reducible apply RS.nil);exact mixed;kernel_rfl)|(with_reducible first|apply W.seq|apply W.ret|apply thenK_n)|((with_reducible apply W.reg);kernel_rfl)|(((with_reducible apply RS.splitD);iterate 2 exact rfl)<;>intro _)|((((with_reducible apply RS.splitG);iterate 2 exact rfl)<;>intro _)<;>(fail_if_success cases ‹true=false›)<;>(fail_if_success cases ‹false=true›))|(((with_reducible apply W.condD);exact rfl)<;>intro _)|((((with_reducible apply W.cond);exact rfl)<;>intro _)<;>(fail_if_success cases ‹true=false›)<;>(fail_if_success cases ‹false=true›)))
    all_goals refine endsK_ret _ (.cons (.tmp rfl) .nil) ⟨rfl,?_⟩
    all_goals simp [resultOf,hasS]
  | some hm hr =>
    rename_i b
    refine TF.dom fun hd=>?_
    have hn:=hd _ _ hm
    refine TF.still (fn:=Try.f12) (c:=(Try.f12.body.getD .skip)) Try.func12 (by kernel_rfl) Try.ntmps12 (by kernel_rfl) (by simp) ?_
    conv=>arg 2;whnf
    by_cases hlt:0≤i∧i.toNat / 64 < s.length
    · obtain ⟨w,hw⟩:∃ w,s[i.toNat / 64]?=some w:=⟨_,List.getElem?_eq_getElem hlt.2⟩
      obtain ⟨hge,hlt⟩:=hlt
      repeat (first|((with_reducible apply RS.quo64);(iterate 3 exact rfl);omega)|((with_reducible apply RS.rem64);(iterate 3 exact rfl);omega)|((with_reducible apply RS.shrW);(iterate 4 exact rfl);exact Nat.mod_lt _ (by decide))|((with_reducible apply RS.and1W);iterate 3 exact rfl)|((with_reducible apply RS.indexAddrS);(iterate 5 exact rfl);omega)|((with_reducible apply RS.load1B);(iterate 3 exact rfl);exact hm;exact hn;(rw [Nat.mul_one,Nat.zero_add];exact setC_get hw))|((with_reducible first|apply RS.move|apply RS.assign|apply RS.lenSl);iterate 3 exact rfl)|((with_reducible apply RS.pickT);iterate 4 exact rfl)|((with_reducible apply RS.cmpT);(iterate 4 exact rfl);(simp only [cmpP];omega))|((with_reducible apply RS.cmpC);iterate 5 exact rfl)|((with_reducible apply RS.nil);exact mixed;kernel_rfl)|(with_reducible first|apply W.seq|apply W.ret|apply thenK_n)|((with_reducible apply W.reg);kernel_rfl))
      repeat' ((first|(((with_reducible apply RS.splitD);iterate 2 exact rfl)<;>intro _)|((((with_reducible apply RS.splitG);iterate 2 exact rfl)<;>intro _)<;>(fail_if_success cases ‹true=false›)<;>(fail_if_success cases ‹false=true›))|(((with_reducible apply W.condD);exact rfl)<;>intro _)|((((with_reducible apply W.cond);exact rfl)<;>intro _)<;>(fail_if_success cases ‹true=false›)<;>(fail_if_success cases ‹false=true›)))<;>repeat (fail))
      all_goals refine endsK_ret _ (.cons (.tmp rfl) .nil) ⟨rfl,?_⟩
      have e:hasS s i=w.getLsbD (i.toNat % 64):=by unfold hasS;rw [hw];simp [hge]
      rw [e,← bit_and];rfl
    · have e:hasS s i=false:=by
        unfold hasS
        by_cases h0:0≤i
        · have:s[i.toNat / 64]?=none:=by rw [List.getElem?_eq_none_iff];omega
          rw [this];simp
        · simp [h0]
      rw [e]
      repeat' (first|((with_reducible apply RS.quo64);(iterate 3 exact rfl);omega)|((with_reducible first|apply RS.move|apply RS.assign|apply RS.lenSl);iterate 3 exact rfl)|((with_reducible apply RS.pickT);iterate 4 exact rfl)|((with_reducible apply RS.pickF);iterate 4 exact rfl)|((with_reducible apply RS.cmpF);(iterate 4 exact rfl);(simp only [cmpN];omega))|((with_reducible apply RS.cmpC);iterate 5 exact rfl)|((with_reducible apply RS.skip);iterate 2 exact rfl)|((with_reducible apply RS.nil);exact mixed;kernel_rfl)|(with_reducible first|apply W.seq|apply W.ret|apply thenK_n)|((with_reducible apply W.reg);kernel_rfl)|(((with_reducible apply RS.splitD);iterate 2 exact rfl)<;>intro _)|((((with_reducible apply RS.splitG);iterate 2 exact rfl)<;>intro _)<;>(fail_if_success cases ‹true=false›)<;>(fail_if_success cases ‹false=true›))|(((with_reducible apply W.condD);exact rfl)<;>intro _)|((((with_reducible apply W.cond);exact rfl)<;>intro _)<;>(fail_if_success cases ‹true=false›)<;>(fail_if_success cases ‹false=true›)))
      all_goals exact endsK_ret _ (.cons (.tmp rfl) .nil) ⟨rfl,by simp [resultOf];try omega⟩
theorem setH_ok {P:Program} {h:Hp} (s0:Sat P h) {A:Option Addr} {s s':SetS} (hs:SetAt h A s):h.n≤(setH h A s').n∧∀ i b,(setH h A s').m i=some b→i < (setH h A s').n∧∀ u∈b.cells,bnd (setH h A s').n u:=by
  cases hs with
  | none=>exact ⟨Nat.le_refl _,fun i b hb=>⟨s0.dom i b hb,s0.bd i b hb⟩⟩
  | some hm hr =>
    rename_i k
    refine ⟨Nat.le_refl _,fun i b hb=>?_⟩
    have hb:(if i=k then some ⟨⟨setC s'⟩,78⟩ else h.m i)=some b:=hb
    split at hb
    · rename_i e
      simp only [Option.some.injEq] at hb
      subst hb;subst e
      exact ⟨s0.dom _ _ hm,fun u hu=>bnd_mono (Nat.zero_le _) _ (setC_free _ u (by simpa using hu))⟩
    · exact ⟨s0.dom i b hb,s0.bd i b hb⟩
theorem setH_same {h:Hp} {A:Option Addr} {s:SetS} (hs:SetAt h A s):setH h A s=h:=by
  cases hs with
  | none=>rfl
  | some hm hr =>
    rename_i k
    refine Hp.eq (fun i=>?_) rfl
    show (if i=k then some _ else h.m i)=h.m i
    split
    · rename_i e;rw [e,hm]
    · rfl
theorem put_no {s:SetS} {i:Int} (h:¬ (0≤i∧i.toNat / 64 < s.length)):putS s i=s:=by
  unfold putS
  split
  · apply List.ext_getElem?
    intro j
    rw [mod_get]
    split
    · have:s[j]?=none:=by rw [List.getElem?_eq_none_iff];omega
      rw [this];rfl
    · rfl
  · rfl
theorem put_tf (s:SetS) (A:Option Addr) (c:Nat) (i:Int) (hi:fitI i) (hl:s.length≤1000000000) (h:Hp) (hs:SetAt h A s):TF Try.prog 31 ⟨[.slice A s.length c,.int .i64 i]⟩ h (.tuple #[]) (setH h A (putS s i)):=by
  obtain ⟨h0,h1⟩:=hi
  refine TF.exact (fn:=Try.f31) (c:=(Try.f31.body.getD .skip)) Try.func31 (by kernel_rfl) Try.ntmps31 (by kernel_rfl) (fun s0=>⟨(setH_ok s0 hs).1,by simp,(setH_ok s0 hs).2⟩) fun π s0=>?_
  conv=>arg 2;whnf
  by_cases hlt:0≤i∧i.toNat / 64 < s.length
  · obtain ⟨w,hw⟩:∃ w,s[i.toNat / 64]?=some w:=⟨_,List.getElem?_eq_getElem hlt.2⟩
    obtain ⟨hge,hlt⟩:=hlt
    cases hs with
    | none=>simp at hw
    | some hm hr =>
      have hn:=s0.dom _ _ hm
      repeat (first|((with_reducible apply RS.quo64);(iterate 3 exact rfl);omega)|((with_reducible apply RS.rem64);(iterate 3 exact rfl);omega)|((with_reducible apply RS.shlW);(iterate 3 exact rfl);exact Nat.mod_lt _ (by decide))|((with_reducible apply RS.orW);iterate 4 exact rfl)|((with_reducible apply RS.indexAddrS);(iterate 5 exact rfl);omega)|((with_reducible apply RS.load1B);(iterate 3 exact rfl);exact hm;exact hn;(rw [Nat.mul_one,Nat.zero_add];exact setC_get hw))|((with_reducible apply RS.storeB);(iterate 3 exact rfl);exact hm;exact hn;exact hr;(rw [setC_length];omega);(iterate 2 exact rfl);first|exact setC_put hw hge|exact setC_out hw hge)|((with_reducible first|apply RS.move|apply RS.lenSl);iterate 3 exact rfl)|((with_reducible apply RS.pickT);iterate 4 exact rfl)|((with_reducible apply RS.cmpT);(iterate 4 exact rfl);(simp only [cmpP];omega))|((with_reducible apply RS.nil);exact mixed;kernel_rfl)|(with_reducible first|apply W.seq|apply thenK_n)|((with_reducible apply W.reg);kernel_rfl)|((with_reducible apply W.condT);kernel_rfl;exact rfl))
      repeat' ((first|(((with_reducible apply RS.splitD);iterate 2 exact rfl)<;>intro _)|((((with_reducible apply RS.splitG);iterate 2 exact rfl)<;>intro _)<;>(fail_if_success cases ‹true=false›)<;>(fail_if_success cases ‹false=true›))|(((with_reducible apply W.condD);exact rfl)<;>intro _)|((((with_reducible apply W.cond);exact rfl)<;>intro _)<;>(fail_if_success cases ‹true=false›)<;>(fail_if_success cases ‹false=true›)))<;>repeat (fail))
      all_goals exact endsK_normal [] .nil (fun B' a=>⟨rfl,a.up⟩)
  · rw [put_no hlt,setH_same hs]
    repeat' (first|((with_reducible apply RS.quo64);(iterate 3 exact rfl);omega)|((with_reducible first|apply RS.move|apply RS.lenSl);iterate 3 exact rfl)|((with_reducible apply RS.pickT);iterate 4 exact rfl)|((with_reducible apply RS.pickF);iterate 4 exact rfl)|((with_reducible apply RS.cmpF);(iterate 4 exact rfl);(simp only [cmpN];omega))|((with_reducible apply RS.cmpC);iterate 5 exact rfl)|((with_reducible apply RS.skip);iterate 2 exact rfl)|((with_reducible apply RS.nil);exact mixed;kernel_rfl)|(with_reducible first|apply W.seq|apply W.skip|apply thenK_n)|((with_reducible apply W.reg);kernel_rfl)|((with_reducible apply W.condF);kernel_rfl;exact rfl)|(((with_reducible apply RS.splitD);iterate 2 exact rfl)<;>intro _)|((((with_reducible apply RS.splitG);iterate 2 exact rfl)<;>intro _)<;>(fail_if_success cases ‹true=false›)<;>(fail_if_success cases ‹false=true›))|(((with_reducible apply W.condD);exact rfl)<;>intro _)|((((with_reducible apply W.cond);exact rfl)<;>intro _)<;>(fail_if_success cases ‹true=false›)<;>(fail_if_success cases ‹false=true›)))
    all_goals exact endsK_normal [] .nil (fun B' a=>⟨rfl,a.up⟩)
theorem rep_set (n:Nat):repL (cellsV (.int .u64 0)) n=setC (List.replicate n 0):=by
  induction n with
  | zero=>rfl
  | succ n ih=>rw [repL,ih,List.replicate_succ];rfl
theorem empty_len {n:Int} (h:0≤n):((n+63).toNat / 64:Nat)=((max n 0).toNat+63) / 64:=by omega
theorem RS.max0 {P:Program} {ops:Array Oper} {draw:Bool} {rs:List Rk} {l:List Oper} {fl:List (Nat × Value)} {nt:Nat} {h:SH} {K:Fr→SH→Prop} {d:Tmp} {ty:TypeId} {pos:String} {af:Array Edge} {gd:Option (Nat × Bool)} {t t':TypeId} {x:Operand} {a:Int} (hw:wantB ops ⟨some d,.call { callee:=.builtin .max,args:=#[x,.const (.int .i64 0)],argTypes:=#[t,t'] },ty,pos,af,gd⟩ ⟨fl,nt⟩=some true) (hd:Nat.blt d nt=true)
    (hx:Fr.ev ⟨fl,nt⟩ x=some (.int .i64 a)) (ha:0≤a)
    (hk:RS P ops draw (recP h.k false [] (some [])::rs) l ⟨(d,.int .i64 a)::fl,nt⟩ h K):RS P ops draw rs (⟨some d,.call { callee:=.builtin .max,args:=#[x,.const (.int .i64 0)],argTypes:=#[t,t'] },ty,pos,af,gd⟩::l) ⟨fl,nt⟩ h K:=by
  refine RS.maxI hw hd hx rfl ?_
  rw [if_neg (by omega)];exact hk
theorem empty_tf (n:Int) (h0:0≤n) (h1:n≤1000000) (h:Hp):TF Try.prog 30 ⟨[.int .i64 n]⟩ h (.slice (some ⟨h.n,0,none⟩) (emptyS n).length (emptyS n).length) (h.push ⟨⟨setC (emptyS n)⟩,78⟩):=by
  have e:emptyS n=List.replicate ((n+63).toNat / 64) 0:=by unfold emptyS;rw [empty_len h0]
  rw [e,List.length_replicate]
  refine TF.ends (fn:=Try.f30) (c:=(Try.f30.body.getD .skip)) (Q:=RowQ (fun _=>setC (List.replicate ((n+63).toNat / 64) 0)) 78 ((n+63).toNat / 64) ((n+63).toNat / 64) h) Try.func30 (by kernel_rfl) Try.ntmps30 (by kernel_rfl) ?_ (row_end (fun v hv=>bnd_mono (Nat.zero_le _) _ (setC_free _ v hv)))
  conv=>arg 2;whnf
  repeat (first|((with_reducible apply RS.quo64);(iterate 3 exact rfl);omega)|((with_reducible apply RS.max0);(iterate 3 exact rfl);omega)|((with_reducible apply RS.makeSliceF);(iterate 6 exact rfl);omega;exact rep_set _;exact setC_free _)|((with_reducible first|apply RS.move|apply RS.assign);iterate 3 exact rfl)|((with_reducible apply RS.binFit);(iterate 5 exact rfl);omega)|((with_reducible apply RS.nil);exact mixed;kernel_rfl)|(with_reducible first|apply W.seq|apply W.ret|apply thenK_n)|((with_reducible apply W.reg);kernel_rfl))
  all_goals exact endsK_ret _ (.cons (.tmp rfl) .nil) ⟨rfl,0,Nat.lt_succ_self 0,rfl,rfl⟩
end Go.Proofs.Ytjhloakacicdiaa
namespace Go.Proofs.Ytjhloakacicdiaa
open Go.AH
attribute [local irreducible] W RS
def OffS (S:Nat→Prop) (h h':Hp):Prop:=h.n≤h'.n∧∀ i,i < h.n→¬ S i→h'.m i=h.m i
def Old (h h':Hp):Prop:=h.n≤h'.n∧∀ i,i < h.n→h'.m i=h.m i
theorem Old.refl (h:Hp):Old h h:=⟨Nat.le_refl _,fun _ _=>rfl⟩
theorem Old.trans {a b c:Hp} (h1:Old a b) (h2:Old b c):Old a c:=⟨Nat.le_trans h1.1 h2.1,fun i hi=>by rw [h2.2 i (Nat.lt_of_lt_of_le hi h1.1),h1.2 i hi]⟩
theorem Old.off {S:Nat→Prop} {a b:Hp} (h1:Old a b):OffS S a b:=⟨h1.1,fun i hi _=>h1.2 i hi⟩
theorem OffS.refl (S:Nat→Prop) (h:Hp):OffS S h h:=⟨Nat.le_refl _,fun _ _ _=>rfl⟩
theorem OffS.trans {S T:Nat→Prop} {a b c:Hp} (h1:OffS S a b) (h2:OffS T b c) (hs:∀ i,i < a.n→T i→S i):OffS S a c :=
  ⟨Nat.le_trans h1.1 h2.1,fun i hi hn=>by rw [h2.2 i (Nat.lt_of_lt_of_le hi h1.1) (fun ht=>hn (hs i hi ht)),h1.2 i hi hn]⟩
theorem OffS.mono {S T:Nat→Prop} {a b:Hp} (h1:OffS S a b) (hs:∀ i,i < a.n→S i→T i):OffS T a b:=⟨h1.1,fun i hi hn=>h1.2 i hi fun h=>hn (hs i hi h)⟩
theorem OffS.old {S:Nat→Prop} {a b:Hp} (h1:OffS S a b) (hs:∀ i,i < a.n→¬ S i):Old a b:=⟨h1.1,fun i hi=>h1.2 i hi (hs i hi)⟩
theorem Old.up {a b:Hp} (h:Old a b) (hd:∀ i x,a.m i=some x→i < a.n):∀ i x,a.m i=some x→b.m i=some x:=fun i x hx=>by rw [h.2 i (hd i x hx)];exact hx
theorem Old.push (h:Hp) (b:Blk):Old h (h.push b):=⟨Nat.le_succ _,fun i hi=>by show (if i=h.n then some b else h.m i)=_;rw [if_neg (by omega)]⟩
theorem push_new (h:Hp) (b:Blk):(h.push b).m h.n=some b:=by show (if h.n=h.n then some b else h.m h.n)=_;rw [if_pos rfl]
theorem OffS.set (h:Hp) (i:Nat) (b:Blk):OffS (fun j=>j=i) h (h.set i b):=⟨Nat.le_refl _,fun j _ hn=>by show (if j=i then some b else h.m j)=_;rw [if_neg hn]⟩
theorem _root_.Go.AH.Absb.oldH {P:Program} {h:Hp} {π:Nat→Nat} {k:Nat} {l:List (Nat × Option Blk)} {B:Hp} (a:Absb (P:=P) ⟨h,π,k,l⟩ B):Old h B:=⟨a.le,a.old⟩
def IntAt (h:Hp) (L:Option Addr) (l:List Int):Prop:=l=[]∨∃ nr,L=some ⟨nr,0,none⟩∧h.m nr=some ⟨⟨l.map (.int .i64)⟩,3⟩
theorem IntAt.up {h H:Hp} {L:Option Addr} {l:List Int} (s:IntAt h L l) (hu:∀ i b,h.m i=some b→H.m i=some b):IntAt H L l:=by
  rcases s with s|⟨nr,h1,h2⟩
  · exact .inl s
  · exact .inr ⟨nr,h1,hu _ _ h2⟩
theorem next_ex (t:TermS) (h:Hp):EX Try.prog 33 [.agg ⟨termC t⟩] h (fun v h'=>∃ A c,v=.slice A (nextS t).length c∧IntAt h' A (nextS t)∧Old h h'∧∀ a,A=some a→h.n≤a.block):=by
  have new:∀ a:Addr,some (⟨h.n,0,none⟩:Addr)=some a→h.n≤a.block:=fun a ha=>by injection ha with ha;rw [← ha];exact Nat.le_refl _
  unfold nextS
  split
  · rename_i hk
    refine (TF.ex (next1_tf t hk h)).mono ?_
    rintro v h' _ ⟨rfl,rfl⟩
    exact ⟨_,_,rfl,.inr ⟨_,rfl,push_new _ _⟩,Old.push _ _,new⟩
  · split
    · rename_i _ hk
      refine (TF.ex (next2_tf t hk h)).mono ?_
      rintro v h' _ ⟨rfl,rfl⟩
      exact ⟨_,_,rfl,.inr ⟨_,rfl,push_new _ _⟩,Old.push _ _,new⟩
    · rename_i h1 h2
      refine (TF.ex (next0_tf t h1 h2 h)).mono ?_
      rintro v h' _ ⟨rfl,rfl⟩
      exact ⟨_,_,rfl,.inl rfl,Old.refl _,fun a ha=>by cases ha⟩
theorem argR_row {h:Hp} {b:Nat} {l:List ArgS} {e:TypeId} (hm:h.m b=some ⟨⟨argsC l⟩,e⟩):SlAt h (some ⟨b,0,none⟩) 2 l argR :=
  ⟨fun i a ha=>⟨b,0,argsC l,e,rfl,hm,by rw [argsC_length];have:=(List.getElem?_eq_some_iff.1 ha).1;omega,argsC_at ha⟩⟩
end Go.Proofs.Ytjhloakacicdiaa
namespace Go.Proofs.Ytjhloakacicdiaa
open Go.AH
attribute [local irreducible] W RS
end Go.Proofs.Ytjhloakacicdiaa
namespace Go.Proofs.Ytjhloakacicdiaa
open Go.AH
attribute [local irreducible] W RS
def SN (A:Option Addr) (i:Nat):Prop:=A=some ⟨i,0,none⟩
theorem setAt_up {h H:Hp} {A:Option Addr} {s:SetS} (hs:SetAt h A s) (hu:∀ i b,h.m i=some b→H.m i=some b):SetAt H A s:=by
  cases hs with
  | none=>exact .none
  | some hm hr=>exact .some (hu _ _ hm) hr
theorem OffS.same {S:Nat→Prop} {a b c:Hp} (h1:OffS S a b) (h2:OffS S b c):OffS S a c:=h1.trans h2 fun _ _ h=>h
theorem setH_off {h:Hp} {A:Option Addr} {s s':SetS} (hs:SetAt h A s):OffS (SN A) h (setH h A s'):=by
  cases hs with
  | none=>exact OffS.refl _ _
  | some hm hr =>
    refine (OffS.set _ _ _).mono fun i _ e=>?_
    subst e;rfl
def killA (h:Hp) (A:Option Addr):Hp:=match A with
  | some a=>h.kill a.block
  | none=>h
end Go.Proofs.Ytjhloakacicdiaa
namespace Go.Proofs.Ytjhloakacicdiaa
open Go.AH
attribute [local irreducible] W RS
theorem stk_lt {h:Hp} {e:TypeId} {A:Option Addr} {cap:Nat} {vs:List Value} (s:StkRow h e A cap vs) (hv:vs≠[]):∃ r t,A=some ⟨r,0,none⟩∧h.m r=some ⟨⟨vs++t⟩,e⟩∧rwM≤r∧(cap=capOf 1∨(cap=vs.length+t.length∧cap < capMark)):=by
  cases s with
  | nil=>exact absurd rfl hv
  | row hm hr hc=>exact ⟨_,_,rfl,hm,hr,hc⟩
theorem pop_ex (wb:Nat) (A:Option Addr) (cap:Nat) (vs:List Value) (x:Int) (hl:vs.length≤1000000000) (h:Hp) (hw:h.m wb=some ⟨⟨[.slice A (vs.length+1:Nat) cap]⟩,32⟩) (hrw:rwM≤wb) (hs:StkRow h 3 A cap (vs++[.int .i64 x])) :
    EX Try.prog 32 [.pointer (some ⟨wb,0,none⟩)] h (fun v h'=>v=.int .i64 x∧h'.m wb=some ⟨⟨[.slice A vs.length cap]⟩,32⟩∧StkRow h' 3 A cap vs∧OffS (fun i=>i=wb) h h'):=by
  refine EX.intro (fn:=Try.f32) (c:=(Try.f32.body.getD .skip)) Try.func32 (by kernel_rfl) Try.ntmps32 (by kernel_rfl) fun π s0=>?_
  conv=>arg 2;whnf
  obtain ⟨r,t,rfl,hm,hr,hc⟩:=stk_lt hs (by simp)
  have hwn:=s0.dom _ _ hw
  have hmn:=s0.dom _ _ hm
  have hat:(vs++[Value.int .i64 x]++t)[0+vs.length * 1]?=some (.int .i64 x):=by simp
  have hle:vs.length≤(vs++[Value.int .i64 x]++t).length:=by simp
  have hcap:cap=capOf 1∨(vs.length≤cap∧cap < capMark):=by
    rcases hc with hc|⟨hc,hcm⟩
    · exact .inl hc
    · exact .inr ⟨by simp at hc;omega,hcm⟩
  repeat (first|((with_reducible apply RS.load1B);(iterate 3 exact rfl);exact hw;exact hwn;exact rfl)|((with_reducible apply RS.indexAddrS);(iterate 5 exact rfl);omega)|((with_reducible apply RS.load1B);(iterate 3 exact rfl);exact hm;exact hmn;exact hat)|((with_reducible apply RS.sliceStk);(iterate 4 exact rfl);exact hm;exact hmn;exact hr;exact hle;exact hcap)|((with_reducible apply RS.storeB);(iterate 3 exact rfl);exact hw;exact hwn;exact hrw;exact Nat.le_of_ble_eq_true rfl;iterate 3 exact rfl)|((with_reducible first|apply RS.nilCheck|apply RS.move|apply RS.assign|apply RS.lenSl);iterate 3 exact rfl)|((with_reducible apply RS.sub1);(iterate 4 exact rfl);omega)|((with_reducible apply RS.nil);exact mixed;kernel_rfl)|(with_reducible first|apply W.seq|apply W.ret|apply thenK_n)|((with_reducible apply W.reg);kernel_rfl))
  have hne:r≠wb:=by
    intro e
    subst e
    rw [hw] at hm
    simp at hm
  refine endsK_ret _ (.cons (.tmp rfl) .nil) fun B' a=>⟨rfl,a.up _ _ ?_,?_,?_⟩
  · show (if wb=wb then _ else _)=_
    rw [if_pos rfl];rfl
  · refine .row (t:=.int .i64 x::t) (a.up _ _ ?_) hr ?_
    · show (if r=wb then _ else h.m r)=_
      rw [if_neg hne,hm];simp
    · rcases hc with hc|⟨hc,hcm⟩
      · exact .inl hc
      · exact .inr ⟨by simp at hc ⊢;omega,hcm⟩
  · exact (OffS.set h wb _).same a.oldH.off
structure FAt (h:Hp) (fb:Nat) (regs:Int) (A:Option Addr) (c:Nat) (bl:List BlockS):Prop where
  hf:∃ fcs,h.m fb=some ⟨⟨fcs⟩,35⟩∧fcs[3]?=some (.int .i64 regs)∧fcs[5]?=some (.slice A bl.length c)
  sl:SlAt h A 9 bl (blockR h)
theorem FAt.up {h H:Hp} {fb:Nat} {regs:Int} {A:Option Addr} {c:Nat} {bl:List BlockS} (f:FAt h fb regs A c bl) (hu:∀ i b,h.m i=some b→H.m i=some b):FAt H fb regs A c bl:=by
  obtain ⟨fcs,h1,h2⟩:=f.hf
  exact ⟨⟨fcs,hu _ _ h1,h2⟩,f.sl.mono hu fun _ _ h=>blockR_mono hu h⟩
def tgtOK (bl:List BlockS):Prop:=∀ b∈bl,∀ k∈nextS b.term,0≤k∧k < bl.length
def lackS (n:Nat) (s:SetS):Nat:=((List.range n).filter fun i:Nat=>!hasS s (i:Int)).length
theorem lackS_put {n:Nat} {s:SetS} {k:Int} (h0:0≤k) (hk:k < n) (hs:hasS s k=false) (hl:k.toNat / 64 < s.length):lackS n (putS s k)+1=lackS n s:=by
  unfold lackS
  obtain ⟨m,rfl⟩:∃ m:Nat,k=m:=⟨k.toNat,by omega⟩
  have hm:m < n:=by omega
  clear h0 hk
  induction n with
  | zero=>omega
  | succ n ih =>
    rw [List.range_succ,List.filter_append,List.filter_append,List.length_append,List.length_append]
    have hput:∀ i:Nat,hasS (putS s (m:Int)) (i:Int)=(hasS s i || decide (m=i)):=by
      intro i
      rw [hasS_put]
      by_cases e:m=i
      · subst e;simp at hl;simp [hl]
      · have:(m:Int)≠(i:Int):=by omega
        simp [e,this]
    by_cases e:m=n
    · subst e
      have e1:(List.range m).filter (fun i:Nat=>!hasS (putS s (m:Int)) (i:Int))=(List.range m).filter (fun i:Nat=>!hasS s (i:Int)):=by
        apply List.filter_congr
        intro i hi
        have:i < m:=List.mem_range.1 hi
        rw [hput,decide_eq_false (by omega),Bool.or_false]
      rw [e1]
      simp [hput,hs]
    · have:=ih (by omega)
      have e2:hasS (putS s (m:Int)) (n:Int)=hasS s (n:Int):=by rw [hput,decide_eq_false e,Bool.or_false]
      simp only [List.filter_cons,List.filter_nil,e2]
      omega
end Go.Proofs.Ytjhloakacicdiaa
namespace Go.Proofs.Ytjhloakacicdiaa
open Go.AH
attribute [local irreducible] W RS
theorem empty_ex (n:Int) (h0:0≤n) (h1:n≤1000000) (h:Hp):EX Try.prog 30 [.int .i64 n] h (fun v h'=>∃ sb,v=.slice (some ⟨sb,0,none⟩) (emptyS n).length (emptyS n).length∧h'.m sb=some ⟨⟨setC (emptyS n)⟩,78⟩∧Old h h'∧h.n≤sb):=by
  refine (TF.ex (empty_tf n h0 h1 h)).mono ?_
  rintro v h' _ ⟨rfl,rfl⟩
  exact ⟨h.n,rfl,push_new _ _,Old.push _ _,Nat.le_refl _⟩
theorem emptyS_length (n:Int):(emptyS n).length=((max n 0).toNat+63) / 64:=by simp [emptyS]
theorem takeV_part {off w j n:Nat} {cs vs:List Value} (h:takeV off w cs=vs) (hj:j+n≤w):takeV (off+j) n cs=(vs.drop j).take n:=by
  subst h
  rw [takeV_eq,takeV_eq,List.drop_take,List.drop_drop,List.take_take,Nat.min_eq_left (by omega)]
def intsV (l:List Int):List Value:=l.reverse.map (.int .i64)
@[simp] theorem intsV_length (l:List Int):(intsV l).length=l.length:=by simp [intsV]
theorem intsV_cons (n:Int) (l:List Int):intsV (n::l)=intsV l++[.int .i64 n]:=by simp [intsV]
structure ReachI (h:Hp) (L:Nat) (sb wb:Nat) (X:Nat→Prop) (s:SetS) (work:List Int) (B:Hp):Prop where
  old:Old h B
  hs:B.m sb=some ⟨⟨setC s⟩,78⟩
  hl:s.length=L
  stk:∃ A cap,B.m wb=some ⟨⟨[.slice A work.length cap]⟩,32⟩∧StkRow B 3 A cap (intsV work)∧∀ a,A=some a→h.n≤a.block∧¬ X a.block
theorem ReachI.up {h:Hp} {L sb wb:Nat} {X:Nat→Prop} {s:SetS} {work:List Int} {B B':Hp} (r:ReachI h L sb wb X s work B) (hd:∀ i x,B.m i=some x→i < B.n) (o:Old B B'):ReachI h L sb wb X s work B':=by
  obtain ⟨A,cap,h1,h2,h3⟩:=r.stk
  exact ⟨r.old.trans o,o.up hd _ _ r.hs,r.hl,A,cap,o.up hd _ _ h1,h2.up (o.up hd),h3⟩
theorem setH_keep {h:Hp} {A:Option Addr} {s s':SetS} (hs:SetAt h A s) {i:Nat} {b:Blk} (hm:h.m i=some b) (he:b.elem≠78):(setH h A s').m i=some b:=by
  cases hs with
  | none=>exact hm
  | some hm' hr =>
    rename_i k
    show (if i=k then _ else h.m i)=some b
    by_cases e:i=k
    · subst e
      rw [hm'] at hm
      injection hm with hm
      rw [← hm] at he
      exact absurd rfl he
    · rw [if_neg e];exact hm
theorem setH_stk {h:Hp} {A:Option Addr} {s s':SetS} (hs:SetAt h A s) {B:Option Addr} {cap:Nat} {vs:List Value} (st:StkRow h 3 B cap vs):StkRow (setH h A s') 3 B cap vs:=by
  cases st with
  | nil=>exact .nil
  | row hm hr hc=>exact .row (setH_keep hs hm (by simp)) hr hc
theorem stk_ne {h:Hp} {B:Option Addr} {cap:Nat} {vs:List Value} (st:StkRow h 3 B cap vs) {i:Nat} {b:Blk} (hm:h.m i=some b) (he:b.elem≠3):B≠some ⟨i,0,none⟩:=by
  intro e
  cases st with
  | nil=>cases e
  | row hm' hr hc =>
    injection e with e
    injection e with e
    subst e
    rw [hm'] at hm
    injection hm with hm
    rw [← hm] at he
    exact he rfl
set_option maxRecDepth 100000 in
theorem reached_ex (fb:Nat) (regs:Int) (A:Option Addr) (c:Nat) (bl:List BlockS) (hne:bl≠[]) (hlen:bl.length≤100000) (htg:tgtOK bl) (h:Hp) (hf:FAt h fb regs A c bl) :
    EX Try.prog 11 [.pointer (some ⟨fb,0,none⟩)] h (fun v h'=>∃ A' c',v=.slice A' (reachedS bl).length c'∧SetAt h' A' (reachedS bl)∧Old h h'∧∀ a,A'=some a→h.n≤a.block):=by
  refine EX.intro (fn:=Try.f11) (c:=(Try.f11.body.getD .skip)) Try.func11 (by kernel_rfl) Try.ntmps11 (by kernel_rfl) fun π s0=>?_
  conv=>arg 2;whnf
  have hpos:0 < bl.length:=List.length_pos_iff.2 hne
  have hn0:(0:Int)≤(bl.length:Int):=by omega
  have hn1:(bl.length:Int)≤1000000:=by omega
  have hd:=s0.dom
  obtain ⟨fcs,hF,h3,h5⟩:=hf.hf
  have hFn:=s0.dom _ _ hF
  ((with_reducible apply W.seq);repeat (first|((with_reducible apply RS.assign);iterate 3 exact rfl)|((with_reducible apply RS.nil);exact mixed;kernel_rfl)|((with_reducible apply W.reg);kernel_rfl)|(with_reducible apply thenK_n)))
  ((with_reducible apply W.seq);repeat (first|((with_reducible apply RS.load1B);(iterate 3 exact rfl);exact hF;exact hFn;first|exact h5|exact h3)|((with_reducible apply RS.callEx);(iterate 3 exact rfl);intro B1 hB1;refine ⟨_,empty_ex _ hn0 hn1 B1,?_⟩;rintro v H1 π1 ⟨sb,rfl,hs1,ho1,hsb⟩ sH1 hle1)|((with_reducible first|apply RS.nilCheck|apply RS.move|apply RS.assign|apply RS.lenSl|apply RS.fieldAddr);iterate 3 exact rfl)|((with_reducible apply RS.nil);exact mixed;kernel_rfl)|((with_reducible apply W.reg);kernel_rfl)|(with_reducible apply thenK_n)))
  have hold1:Old h H1:=hB1.oldH.trans ho1
  replace hF:=hold1.up hd _ _ hF
  replace hFn:=sH1.dom _ _ hF
  ((with_reducible apply W.seq);repeat (fail))
  ((with_reducible apply W.seq);repeat (first|((with_reducible apply RS.load1B);(iterate 3 exact rfl);exact hF;exact hFn;first|exact h5|exact h3)|((with_reducible first|apply RS.nilCheck|apply RS.move|apply RS.lenSl|apply RS.fieldAddr);iterate 3 exact rfl)|((with_reducible apply RS.cmpF);(iterate 4 exact rfl);(simp only [cmpN];omega))|((with_reducible apply RS.nil);exact mixed;kernel_rfl)|((with_reducible apply W.reg);kernel_rfl)|(with_reducible first|apply W.skip|apply thenK_n)|((with_reducible apply W.condF);kernel_rfl;exact rfl)))
  ((with_reducible apply W.seq);repeat (first|((with_reducible apply RS.buildSlice);iterate 8 exact rfl)|((with_reducible apply RS.store);(iterate 5 exact rfl);exact Nat.le_of_ble_eq_true rfl;iterate 3 exact rfl)|((with_reducible apply RS.alloc);iterate 2 exact rfl)|((with_reducible apply RS.nil);exact mixed;kernel_rfl)|((with_reducible apply W.reg);kernel_rfl)|(with_reducible apply thenK_n)))
  refine W.absorbX fun B2 π2 a2=>?_
  have hrow0:B2.m (π1 0)=some ⟨⟨[.int .i64 0]⟩,3⟩:=a2.loc 0 (Nat.lt_of_lt_of_le Nat.zero_lt_one (Nat.le_succ 1))
  have hwb0:B2.m (π1 1)=some ⟨⟨[.slice (some ⟨π1 0,0,none⟩) 1 1]⟩,32⟩:=a2.loc 1 (Nat.lt_succ_self 1)
  have hr0:H1.n≤π1 0:=a2.lo 0 (Nat.lt_of_lt_of_le Nat.zero_lt_one (Nat.le_succ 1))
  have hw0:H1.n≤π1 1:=a2.lo 1 (Nat.lt_succ_self 1)
  have hw1:π1 1 < B2.n:=a2.hi 1 (Nat.lt_succ_self 1)
  generalize π1 0=r0 at *
  generalize π1 1=wb at *
  have hwr:rwM≤wb:=Nat.le_trans s0.rw (Nat.le_trans hold1.1 hw0)
  have hsbr:rwM≤sb:=Nat.le_trans s0.rw (Nat.le_trans hB1.le hsb)
  have hs2:SetAt B2 (some ⟨sb,0,none⟩) (emptyS (bl.length:Int)):=.some (a2.up _ _ hs1) hsbr
  have hsl:(emptyS (bl.length:Int)).length≤1000000000:=by rw [emptyS_length];omega
  ((with_reducible apply W.seq);repeat (first|((with_reducible apply RS.callEx);(iterate 3 exact rfl);intro B3 hB3;refine ⟨_,TF.ex (put_tf _ _ _ 0 (by unfold fitI;omega) hsl B3 (setAt_up hs2 hB3.up)),?_⟩;rintro v H3 π3 ⟨rfl,rfl⟩ sH3 hle3)|((with_reducible apply RS.move);iterate 3 exact rfl)|((with_reducible apply RS.nil);exact mixed;kernel_rfl)|((with_reducible apply W.reg);kernel_rfl)|(with_reducible apply thenK_n)))
  have hI0:ReachI h (emptyS (bl.length:Int)).length sb wb (fun _=>False) (putS (emptyS (bl.length:Int)) 0) [0] (setH B3 (some ⟨sb,0,none⟩) (putS (emptyS (bl.length:Int)) 0)):=by
    have hne:wb≠sb:=by
      intro e
      have:=a2.up _ _ hs1
      rw [← e,hwb0] at this
      simp at this
    have hne2:r0≠sb:=by
      intro e
      have:=a2.up _ _ hs1
      rw [← e,hrow0] at this
      simp at this
    refine ⟨?_,?_,putS_length _ _,some ⟨r0,0,none⟩,1,?_,.row (t:=[]) ?_ ?_ (.inr ⟨rfl,by decide⟩),?_⟩
    · have o:OffS (SN (some ⟨sb,0,none⟩)) h (setH B3 (some ⟨sb,0,none⟩) (putS (emptyS (bl.length:Int)) 0)):=((hold1.trans a2.oldH).trans hB3.oldH).off.same (setH_off (setAt_up hs2 hB3.up))
      refine o.old fun i hi e=>?_
      have e:some _=some _:=e
      injection e with e
      injection e with e
      have:h.n≤B1.n:=hB1.le
      omega
    · show (if sb=sb then _ else _)=_;rw [if_pos rfl]
    · show (if wb=sb then _ else B3.m wb)=_;rw [if_neg hne];exact hB3.up _ _ hwb0
    · show (if r0=sb then _ else B3.m r0)=_;rw [if_neg hne2];exact hB3.up _ _ hrow0
    · exact Nat.le_trans s0.rw (Nat.le_trans hold1.1 hr0)
    · intro a ha
      injection ha with ha
      rw [← ha]
      exact ⟨Nat.le_trans hold1.1 hr0,id⟩
  have hsln:(emptyS (bl.length:Int)).length=(bl.length+63) / 64:=by rw [emptyS_length];omega
  with_reducible apply W.seq
  with_reducible apply W.block
  refine W.loopN (X:=Nat × SetS × List Int) (fun x=>[(0,.pointer (some ⟨fb,0,none⟩)),(3,.slice (some ⟨sb,0,none⟩) (emptyS (bl.length:Int)).length (emptyS (bl.length:Int)).length),(4,.pointer (some ⟨wb,0,none⟩))])
    (fun x B=>ReachI h (emptyS (bl.length:Int)).length sb wb (fun _=>False) x.2.1 x.2.2 B∧(∀ k∈x.2.2,0≤k∧k < bl.length)∧(x.2.2.length+lackS bl.length x.2.1≤x.1∧x.1≤2 * bl.length+2)∧reachGo bl x.1 x.2.1 x.2.2=reachedS bl) (fun x=>x.1)
    (fun B' a=>⟨(2 * bl.length+2,putS (emptyS (bl.length:Int)) 0,[0]),?_,hI0.up sH3.dom a.oldH,?_,?_,?_⟩) ?_
  · (repeat' (first|exact trivial|exact rfl|apply And.intro));done
  · intro k hk
    simp only [List.mem_singleton] at hk
    omega
  · have:lackS bl.length (putS (emptyS (bl.length:Int)) 0)≤bl.length:=by
      unfold lackS
      exact Nat.le_trans (List.length_filter_le _ _) (by simp)
    simp only [List.length_singleton]
    exact ⟨by omega,Nat.le_refl _⟩
  · show reachGo bl (2 * bl.length+2) _ [0]=reachedS bl
    unfold reachedS
    rw [if_neg (by omega)]
  · rintro ⟨m,s,work⟩ B π sB ⟨hI,hwk,⟨hm,hmm⟩,hgo⟩
    dsimp only at hI hwk hm hmm hgo ⊢
    have hd2:=sB.dom
    obtain ⟨A0,cap,hW,hstk,hA0⟩:=hI.stk
    have hWn:=hd2 _ _ hW
    have hsl:=hI.hl
    cases work with
    | nil =>
      rw [List.length_nil] at hW
      have hfin:s=reachedS bl:=by rw [← hgo];cases m<;>rfl
      repeat (first|((with_reducible apply RS.load1B);(iterate 3 exact rfl);exact hW;exact hWn;exact rfl)|((with_reducible first|apply RS.move|apply RS.assign|apply RS.lenSl);iterate 3 exact rfl)|((with_reducible apply RS.cmpF);(iterate 4 exact rfl);(simp only [cmpN];omega))|((with_reducible apply RS.nil);exact mixed;kernel_rfl)|(with_reducible first|apply W.seq|apply W.exit|apply W.ret|apply thenK_n|apply thenK_e|apply roundN_e)|((with_reducible apply W.reg);kernel_rfl)|((with_reducible apply W.condF);kernel_rfl;exact rfl)|((with_reducible apply blockK_hit);exact rfl))
      refine endsK_ret _ (.cons (.tmp rfl) .nil) fun B' a=>⟨some ⟨sb,0,none⟩,_,by rw [← hsl,hfin];rfl,by rw [← hfin];exact .some (a.up _ _ hI.hs) hsbr,hI.old.trans a.oldH,fun a ha=>?_⟩
      injection ha with ha
      rw [← ha]
      exact Nat.le_trans hB1.le hsb
    | cons n rest =>
      rw [List.length_cons] at hW
      rw [intsV_cons] at hstk
      obtain ⟨hn0',hn1'⟩:=hwk n (by simp)
      have hrl:(intsV rest).length≤1000000000:=by rw [intsV_length];simp only [List.length_cons] at hm;omega
      obtain ⟨m',rfl⟩:∃ m',m=m'+1:=⟨m - 1,by simp at hm;omega⟩
      ((with_reducible apply W.seq);repeat (fail))
      ((with_reducible apply W.seq);repeat (first|((with_reducible apply RS.load1B);(iterate 3 exact rfl);exact hW;exact hWn;exact rfl)|((with_reducible apply RS.cmpT);(iterate 4 exact rfl);(simp only [cmpP];omega))|((with_reducible apply RS.lenSl);iterate 3 exact rfl)|((with_reducible apply RS.nil);exact mixed;kernel_rfl)|((with_reducible apply W.reg);kernel_rfl)|(with_reducible first|apply W.block|apply W.skip|apply thenK_n)|((with_reducible apply W.condT);kernel_rfl;exact rfl)))
      ((with_reducible apply W.seq);repeat (first|((with_reducible apply RS.callEx);(iterate 3 exact rfl);intro B4 hB4;refine ⟨_,pop_ex wb A0 cap (intsV rest) n hrl B4 (by rw [intsV_length];exact hB4.up _ _ hW) hwr (hstk.up hB4.up),?_⟩;rintro v H4 π4 ⟨rfl,hW4,hstk4,ho4⟩ sH4 hle4)|((with_reducible apply RS.assign);iterate 3 exact rfl)|((with_reducible apply RS.nil);exact mixed;kernel_rfl)|((with_reducible apply W.reg);kernel_rfl)|(with_reducible apply thenK_n)))
      have hwn:h.n≤wb:=Nat.le_trans hold1.1 hw0
      have hsn:h.n≤sb:=Nat.le_trans hB1.le hsb
      have old4:Old h H4:=((hI.old.trans hB4.oldH).off.same (ho4.mono (T:=fun i=>i=wb) fun _ _ e=>e)).old fun i hi e=>by subst e;omega
      have hs4:H4.m sb=some ⟨⟨setC s⟩,78⟩:=by
        rw [ho4.2 sb (hB4.sat.dom _ _ (hB4.up _ _ hI.hs)) (fun e=>by
          have:=hI.hs
          rw [e,hW] at this
          simp at this)]
        exact hB4.up _ _ hI.hs
      have hf4:=hf.up (old4.up hd)
      obtain ⟨fcs',hF,_,h5⟩:=hf4.hf
      have hFn:=sH4.dom _ _ hF
      have hnat:n=(n.toNat:Int):=by omega
      have hnl:n.toNat < bl.length:=by omega
      obtain ⟨b,hb⟩:∃ b,bl[n.toNat]?=some b:=⟨_,List.getElem?_eq_getElem hnl⟩
      obtain ⟨bb,off,cs,e,rfl,hG,hGl,hGb⟩:=hf4.sl.get _ b hb
      have hGn:=sH4.dom _ _ hG
      obtain ⟨Ai,ci,hGb,_⟩:=hGb
      have hGv:takeV (off+n.toNat * 9+1) 8 cs=termC b.term:=takeV_part (n:=8) hGb (by decide)
      replace hGl:off+n.toNat * 9+1+8≤cs.length:=by omega
      ((with_reducible apply W.seq);repeat (first|((with_reducible apply RS.load1B);(iterate 3 exact rfl);exact hF;exact hFn;first|exact h5|exact h3)|((with_reducible apply RS.indexAddrS);(iterate 4 exact rfl);exact hnat;omega)|((with_reducible apply RS.loadNB);(iterate 3 exact rfl);exact hG;exact hGn;exact hGl;exact hGv)|((with_reducible apply RS.callEx);(iterate 3 exact rfl);intro B5 hB5;refine ⟨_,next_ex b.term B5,?_⟩;rintro v H5 π5 ⟨AL,cL,rfl,hrow,ho5,hnewL⟩ sH5 hle5)|((with_reducible first|apply RS.nilCheck|apply RS.move|apply RS.lenSl|apply RS.fieldAddr);iterate 3 exact rfl)|((with_reducible apply RS.nil);exact mixed;kernel_rfl)|((with_reducible apply W.reg);kernel_rfl)|(with_reducible first|apply W.block|apply thenK_n)))
      have old5:Old H4 H5:=hB5.oldH.trans ho5
      have hWn4:=sH4.dom _ _ hW4
      have hJ0:ReachI h (emptyS (bl.length:Int)).length sb wb (SN AL) s rest H5:=by
        refine ⟨old4.trans old5,old5.up sH4.dom _ _ hs4,hsl,A0,cap,?_,hstk4.up (old5.up sH4.dom),fun a ha=>⟨(hA0 a ha).1,fun hx=>?_⟩⟩
        · have:=old5.up sH4.dom _ _ hW4
          rwa [intsV_length] at this
        · obtain ⟨r,t,hr1,hr2,_⟩:=stk_lt hstk (by simp)
          rw [ha] at hr1
          injection hr1 with hr1
          subst hr1
          have h1:=hnewL _ hx
          have h2:r < B4.n:=hB4.dom _ _ (hB4.up _ _ hr2)
          have h3:H4.n≤B5.n:=hB5.le
          simp only at h1
          omega
      generalize hl:nextS b.term=l at *
      have hlk:∀ k∈l,0≤k∧k < bl.length:=fun k hk=>htg b (List.mem_of_getElem? hb) k (by rw [hl];exact hk)
      have hll:l.length≤2:=by
        rw [← hl]
        unfold nextS
        repeat' split
        all_goals simp
      have hnext:nextAt bl n=l:=by unfold nextAt;rw [hb];exact hl
      refine W.loopN (X:=Nat × SetS × List Int) (fun x=>[(0,.pointer (some ⟨fb,0,none⟩)),(3,.slice (some ⟨sb,0,none⟩) (emptyS (bl.length:Int)).length (emptyS (bl.length:Int)).length),(4,.pointer (some ⟨wb,0,none⟩)),(36,.slice AL l.length cL),(37,.int .i64 (l.length:Int)),(38,.int .i64 (x.1:Int))])
        (fun x B=>x.1≤l.length∧ReachI h (emptyS (bl.length:Int)).length sb wb (SN AL) x.2.1 x.2.2 B∧IntAt B AL l∧(∀ k∈x.2.2,0≤k∧k < bl.length)∧x.2.2.length+lackS bl.length x.2.1≤m'∧reachPush s rest l=reachPush x.2.1 x.2.2 (l.drop x.1)) (fun x=>l.length - x.1)
        (fun B' a=>⟨(0,s,rest),?_,by simp,hJ0.up sH5.dom a.oldH,hrow.up a.up,fun k hk=>hwk k (by simp [hk]),?_,rfl⟩) ?_
      · (repeat' (first|exact trivial|exact rfl|apply And.intro));done
      · simp only [List.length_cons] at hm ⊢
        omega
      · rintro ⟨j,s1,w1⟩ B8 π8 sB8 ⟨hj,hJ,hIn,hwk1,hm1,hpush⟩
        dsimp only at hj hJ hIn hwk1 hm1 hpush ⊢
        by_cases hjl:j < l.length
        · obtain ⟨k,hk⟩:∃ k,l[j]?=some k:=⟨_,List.getElem?_eq_getElem hjl⟩
          rcases hIn with hIn|⟨nr,rfl,hR⟩
          · rw [hIn] at hjl;exact absurd hjl (Nat.not_lt_zero _)
          have hRn:=sB8.dom _ _ hR
          have hRv:(l.map (Value.int .i64))[0+j * 1]?=some (.int .i64 k):=by simp [hk]
          obtain ⟨hk0,hk1⟩:=hlk k (List.mem_of_getElem? hk)
          have hkf:fitI k:=by unfold fitI;omega
          have hsl1:s1.length≤1000000000:=by rw [hJ.hl,hsln];omega
          have hs1':SetAt B8 (some ⟨sb,0,none⟩) s1:=.some hJ.hs hsbr
          have hdrop:l.drop j=k::l.drop (j+1):=by
            obtain ⟨h1,h2⟩:=List.getElem?_eq_some_iff.1 hk
            rw [List.drop_eq_getElem_cons h1,h2]
          rw [hdrop] at hpush
          obtain ⟨A1,cap1,hW1,hst1,hA1⟩:=hJ.stk
          rw [← intsV_length w1] at hW1
          have hneW:A1≠some ⟨wb,0,none⟩:=stk_ne hst1 hW1 (by simp)
          have hneN:A1≠some ⟨nr,0,none⟩:=fun e=>(hA1 _ e).2 rfl
          have hneS:A1≠some ⟨sb,0,none⟩:=stk_ne hst1 hJ.hs (by simp)
          rw [← hJ.hl]
          repeat' (first|((with_reducible apply RS.load1B);(iterate 3 exact rfl);exact hR;exact hRn;exact hRv)|((with_reducible apply RS.indexAddrS);(iterate 5 exact rfl);omega)|((with_reducible apply RS.callA);(iterate 3 exact rfl);exact fun B6 hB6=>has_tf s1 _ _ k hkf hsl1 B6 (setAt_up hs1' hB6.up))|((with_reducible apply RS.buildSlice);iterate 8 exact rfl)|((with_reducible apply RS.callEx);(iterate 3 exact rfl);intro B6 hB6;refine ⟨_,TF.ex (put_tf s1 _ _ k hkf hsl1 B6 (setAt_up hs1' hB6.up)),?_⟩;rintro v H6 π6 ⟨rfl,rfl⟩ sH6 hle6;have hs6:=setAt_up hs1' hB6.up;have hW6:=setH_keep (s':=putS s1 k) hs6 (hB6.up _ _ hW1) (by simp);have hW6n:=sH6.dom _ _ hW6;have hst6:=setH_stk (s':=putS s1 k) hs6 (hst1.up hB6.up))|((with_reducible apply RS.load1B);(iterate 3 exact rfl);exact hW6;exact hW6n;exact rfl)|((with_reducible apply RS.pushStk (vs:=intsV w1));(iterate 5 exact rfl);exact fun B hB=>⟨hB.loc 0 (Nat.lt_succ_self 0),hst6.up hB.up⟩;exact rfl;(simp only [intsV_length];omega);(simp only [intsV_length];omega);intro B7 hB7 A7 cap7 H7 π7 sH7 hst7 hle7 hoff7 hA7;have hW7:=(hoff7 wb (hB7.dom _ _ (hB7.up _ _ hW6)) hneW).trans (hB7.up _ _ hW6);have hW7n:=sH7.dom _ _ hW7)|((with_reducible apply RS.storeB);(iterate 3 exact rfl);exact hW7;exact hW7n;exact hwr;exact Nat.le_of_ble_eq_true rfl;iterate 3 exact rfl)|((with_reducible first|apply RS.move|apply RS.assign|apply RS.not);iterate 3 exact rfl)|((with_reducible apply RS.cmpT);(iterate 4 exact rfl);(simp only [cmpP];omega))|((with_reducible apply RS.add1);(iterate 4 exact rfl);omega)|((with_reducible apply RS.nil);exact mixed;kernel_rfl)|(with_reducible first|apply W.seq|apply W.block|apply W.skip|apply thenK_n|apply blockK_n)|((with_reducible apply W.reg);kernel_rfl)|((with_reducible apply W.condT);kernel_rfl;exact rfl)|(((with_reducible apply RS.splitD);iterate 2 exact rfl)<;>intro _)|((((with_reducible apply RS.splitG);iterate 2 exact rfl)<;>intro _)<;>(fail_if_success cases ‹true=false›)<;>(fail_if_success cases ‹false=true›))|(((with_reducible apply W.condD);exact rfl)<;>intro _)|((((with_reducible apply W.cond);exact rfl)<;>intro _)<;>(fail_if_success cases ‹true=false›)<;>(fail_if_success cases ‹false=true›)))
          · have hput:(putS s1 k).length=s1.length:=putS_length _ _
            have hno:hasS s1 k=false:=by simpa using ‹(!hasS s1 k)=true›
            have hnrw:nr≠wb:=by
              intro e
              subst e
              rw [hR] at hW1
              simp at hW1
            have hsbw:sb≠wb:=by
              intro e
              have:=hJ.hs
              rw [e,hW1] at this
              simp at this
            have h8:B8.n≤B7.n:=Nat.le_trans hB6.le hB7.le
            refine roundN_n rfl fun B' a=>⟨(j+1,putS s1 k,k::w1),?_,⟨by omega,⟨?_,?_,hput,A7,cap7,?_,?_,?_⟩,?_,?_,?_,?_⟩,by omega⟩
            · (repeat' (first|exact trivial|exact rfl|apply And.intro));done
            · have o1:OffS (fun i=>h.n≤i) h B7:=((hJ.old.trans hB6.oldH).off.same ((setH_off hs6).mono fun i _ e=>by
                have e:some _=some _:=e
                injection e with e
                injection e with e
                rw [← e];exact hsn)).same hB7.oldH.off
              have o2:OffS (fun i=>h.n≤i) B7 H7:=⟨hle7,fun i hi hn=>hoff7 i hi fun e=>hn (hA1 _ e).1⟩
              have o3:OffS (fun i=>h.n≤i) H7 B':=((OffS.set H7 wb _).mono fun i _ e=>by rw [e];exact hwn).same a.oldH.off
              exact ((o1.same o2).same o3).old fun i hi hn=>by omega
            · refine a.up _ _ ?_
              show (if sb=wb then _ else H7.m sb)=_
              have hs6':(setH B6 (some ⟨sb,0,none⟩) (putS s1 k)).m sb=some ⟨⟨setC (putS s1 k)⟩,78⟩:=by show (if sb=sb then _ else _)=_;rw [if_pos rfl]
              have hs7:=hB7.up _ _ hs6'
              rw [if_neg hsbw,hoff7 sb (hB7.dom _ _ hs7) hneS]
              exact hs7
            · refine a.up _ _ ?_
              show (if wb=wb then _ else H7.m wb)=_
              rw [if_pos rfl,intsV_length];rfl
            · rw [intsV_cons]
              have hst8:StkRow (H7.set wb ⟨⟨[.slice A7 ((intsV w1).length+1) cap7]⟩,32⟩) 3 A7 cap7 (intsV w1++[.int .i64 k]):=by
                obtain ⟨r,t,rfl,hr1,hr2,hr3⟩:=stk_lt hst7 (by simp)
                refine .row (t:=t) ?_ hr2 hr3
                have hrw:r≠wb:=by
                  intro e
                  subst e
                  rw [hW7] at hr1
                  simp at hr1
                show (if r=wb then _ else H7.m r)=_
                rw [if_neg hrw];exact hr1
              exact hst8.up a.up
            · intro a' ha'
              rcases hA7 a' ha' with e|e
              · exact hA1 _ e
              · refine ⟨Nat.le_trans hJ.old.1 (Nat.le_trans h8 e),fun hx=>?_⟩
                have hx:some _=some _:=hx
                injection hx with hx
                injection hx with hx
                omega
            · refine .inr ⟨nr,rfl,a.up _ _ ?_⟩
              show (if nr=wb then _ else H7.m nr)=_
              have hr7:=hB7.up _ _ (setH_keep (s':=putS s1 k) hs6 (hB6.up _ _ hR) (by simp))
              rw [if_neg hnrw,hoff7 nr (hB7.dom _ _ hr7) hneN]
              exact hr7
            · intro k' hk'
              rcases List.mem_cons.1 hk' with e|e
              · rw [e];exact ⟨hk0,hk1⟩
              · exact hwk1 k' e
            · have:=lackS_put (n:=bl.length) hk0 hk1 hno (by rw [hJ.hl,hsln];omega)
              simp only [List.length_cons]
              omega
            · rw [hpush,reachPush,if_neg (by rw [hno];simp)]
          · refine roundN_n rfl fun B' a=>⟨(j+1,s1,w1),?_,⟨by omega,?_,?_,hwk1,hm1,?_⟩,by omega⟩
            · (repeat' (first|exact trivial|exact rfl|apply And.intro));done
            · rw [hJ.hl];exact hJ.up sB8.dom a.oldH
            · exact .inr ⟨nr,rfl,a.up _ _ hR⟩
            · rw [hpush,reachPush,if_pos (by simpa using ‹(!hasS s1 k)=false›)]
        · have hjj:l.drop j=[]:=List.drop_eq_nil_of_le (by omega)
          rw [hjj] at hpush
          repeat (first|((with_reducible apply RS.cmpF);(iterate 4 exact rfl);(simp only [cmpN];omega))|((with_reducible apply RS.nil);exact mixed;kernel_rfl)|(with_reducible first|apply W.seq|apply W.exit|apply thenK_n|apply thenK_e|apply blockK_n|apply roundN_e)|((with_reducible apply W.reg);kernel_rfl)|((with_reducible apply W.condF);kernel_rfl;exact rfl)|((with_reducible apply blockK_hit);exact rfl))
          refine roundN_n rfl fun B' a=>⟨(m',s1,w1),?_,⟨?_,hwk1,⟨hm1,by omega⟩,?_⟩,by omega⟩
          · (repeat' (first|exact trivial|exact rfl|apply And.intro));done
          · obtain ⟨A1,cap1,hW1,hst1,hA1⟩:=hJ.stk
            exact ⟨hJ.old.trans a.oldH,a.up _ _ hJ.hs,hJ.hl,A1,cap1,a.up _ _ hW1,hst1.up a.up,fun a ha=>⟨(hA1 a ha).1,id⟩⟩
          · rw [← hgo,reachGo,hnext,hpush];rfl
end Go.Proofs.Ytjhloakacicdiaa
namespace Go.Proofs.Ytjhloakacicdiaa
open Go.AH
attribute [local irreducible] W RS
end Go.Proofs.Ytjhloakacicdiaa
namespace Go.Proofs.Ytjhloakacicdiaa
open Go.AH
attribute [local irreducible] W RS
theorem setL_app1:∀ (c r:List Value) (o:Nat) (vs:List Value),o+vs.length≤c.length→setL (c++r) o vs=setL c o vs++r
  | [],r,o,vs,h=>by
    have h:o+vs.length≤0:=h
    have h1:o=0:=by omega
    have h2:vs=[]:=List.length_eq_zero_iff.1 (by omega)
    subst h1;subst h2
    rw [setL_nil,setL_nil]
  | a::c,r,0,[],_=>by rw [setL_nil,setL_nil]
  | a::c,r,0,v::vs,h=>by
    have:=setL_app1 c r 0 vs (by simp at h ⊢;omega)
    simp only [List.cons_append,setL,this]
  | a::c,r,o+1,vs,h=>by
    have:=setL_app1 c r o vs (by simp at h ⊢;omega)
    simp only [List.cons_append,setL,this]
theorem setL_app2:∀ (c r:List Value) (k:Nat) (vs:List Value),setL (c++r) (c.length+k) vs=c++setL r k vs
  | [],r,k,vs=>by simp
  | a::c,r,k,vs=>by
    have:=setL_app2 c r k vs
    have e:(a::c).length+k=(c.length+k)+1:=by simp;omega
    rw [e]
    simp only [List.cons_append,setL,this]
theorem flat_set {w:Nat}:∀ {L:List (List Value)},(∀ c∈L,c.length=w)→∀ {i o:Nat} {x vs:List Value},L[i]?=some x→o+vs.length≤w→setL L.flatten (i * w+o) vs=(L.set i (setL x o vs)).flatten:=by
  intro L
  induction L with
  | nil=>intro _ i o x vs hx;simp at hx
  | cons c L ih =>
    intro hw i o x vs hx ho
    have hc:=hw c (by simp)
    cases i with
    | zero =>
      simp only [List.getElem?_cons_zero,Option.some.injEq] at hx
      subst hx
      rw [Nat.zero_mul,Nat.zero_add,List.flatten_cons,setL_app1 _ _ _ _ (by omega),List.set_cons_zero,List.flatten_cons]
    | succ i =>
      have:=ih (fun c' hc'=>hw c' (by simp [hc'])) (i:=i) (by simpa using hx) ho
      rw [List.flatten_cons,List.set_cons_succ,List.flatten_cons,← this]
      have e:(i+1) * w+o=c.length+(i * w+o):=by rw [hc,Nat.succ_mul];omega
      rw [e,setL_app2]
theorem flat_take {w:Nat} {L:List (List Value)} (hw:∀ c∈L,c.length=w) {i:Nat} {x:List Value} (hx:L[i]?=some x):takeV (i * w) w L.flatten=x∧i * w+w≤L.flatten.length:=by
  have hxl:=hw x (List.mem_of_getElem? hx)
  have hi:=(List.getElem?_eq_some_iff.1 hx).1
  have hlen:=flat_len hw
  have hle:i * w+w≤L.flatten.length:=by
    rw [hlen]
    have:(i+1) * w≤L.length * w:=Nat.mul_le_mul_right _ (by omega)
    rw [Nat.succ_mul] at this;exact this
  refine ⟨?_,hle⟩
  rw [takeV_eq]
  apply List.ext_getElem?
  intro j
  by_cases hj:j < w
  · rw [List.getElem?_take_of_lt hj,List.getElem?_drop,flat_get hw i j hj,hx];rfl
  · have h1:x[j]?=none:=by rw [List.getElem?_eq_none_iff];omega
    rw [h1,List.getElem?_take,if_neg hj]
abbrev InsV:=InsS × Nat
def insVC (x:InsV):List Value:=[.int .i64 x.1.op,.int .i64 x.1.dst,.int .i64 x.1.a.reg,.int .i64 x.1.a.num,.int .i64 x.1.b.reg,.int .i64 x.1.b.num,.int .i64 x.1.size,.bool x.1.signed,.bool x.1.secret,.int .i64 x.1.ref,.int .i64 x.1.off,rowVl 2 x.2 x.1.args]
structure BV where
  ins:List InsV
  r:Nat
  term:TermS
def BV.s (b:BV):BlockS:=⟨b.ins.map (·.1),b.term⟩
def BV.c (b:BV):List Value:=rowVl 12 b.r b.ins::termC b.term
def insA (x:InsV):Option Addr:=if x.1.args=[] then none else some ⟨x.2,0,none⟩
def insK (x:InsV):Nat:=if x.1.args=[] then 0 else capOf 2
theorem insVC_eq (x:InsV):insVC x=insC x.1 (insA x) (insK x):=by
  unfold insVC insC insA insK
  rw [rowVl_eq]
def BV.A (b:BV):Option Addr:=if b.ins=[] then none else some ⟨b.r,0,none⟩
def BV.k (b:BV):Nat:=if b.ins=[] then 0 else capOf 12
theorem BVc_eq (b:BV):b.c=blockC b.s b.A b.k:=by
  unfold BV.c blockC BV.A BV.k BV.s
  rw [rowVl_eq]
  simp [termC]
structure OwnB (h:Hp) (bb:Nat) (bv:List BV):Prop where
  rw:rwM≤bb
  m:h.m bb=some ⟨⟨(bv.map BV.c).flatten⟩,47⟩
  row:∀ b∈bv,b.ins≠[]→rwM≤b.r∧h.m b.r=some ⟨⟨(b.ins.map insVC).flatten⟩,64⟩
  arg:∀ b∈bv,∀ x∈b.ins,x.1.args≠[]→rwM≤x.2∧h.m x.2=some ⟨⟨argsC x.1.args⟩,43⟩
  sep:∀ (i j:Nat) (x y:BV),bv[i]?=some x→bv[j]?=some y→x.ins≠[]→y.ins≠[]→x.r=y.r→i=j
def sL (bv:List BV):List BlockS:=bv.map BV.s
theorem insR_own {h:Hp} {x:InsV} (ha:x.1.args≠[]→rwM≤x.2∧h.m x.2=some ⟨⟨argsC x.1.args⟩,43⟩):insR h (insVC x) x.1:=by
  refine ⟨insA x,insK x,insVC_eq x,?_⟩
  unfold insA
  by_cases e:x.1.args=[]
  · rw [e];exact .nil
  · rw [if_neg e];exact argR_row (ha e).2
theorem own_ins {h:Hp} {b:BV} (hr:b.ins≠[]→rwM≤b.r∧h.m b.r=some ⟨⟨(b.ins.map insVC).flatten⟩,64⟩) (ha:∀ x∈b.ins,x.1.args≠[]→rwM≤x.2∧h.m x.2=some ⟨⟨argsC x.1.args⟩,43⟩):SlAt h b.A 12 (b.ins.map (·.1)) (insR h):=by
  refine ⟨fun i x hx=>?_⟩
  have hne:b.ins≠[]:=by intro e;rw [e] at hx;simp at hx
  rw [List.getElem?_map] at hx
  obtain ⟨y,hy,rfl⟩:=Option.map_eq_some_iff.1 hx
  have hw:∀ c∈b.ins.map insVC,c.length=12:=by intro c hc;obtain ⟨z,_,rfl⟩:=List.mem_map.1 hc;rfl
  obtain ⟨h1,h2⟩:=flat_take hw (i:=i) (x:=insVC y) (by rw [List.getElem?_map,hy];rfl)
  refine ⟨b.r,0,_,64,by unfold BV.A;rw [if_neg hne],(hr hne).2,by omega,?_⟩
  rw [Nat.zero_add,h1]
  exact insR_own (ha y (List.mem_of_getElem? hy))
theorem OwnB.sl {h:Hp} {bb:Nat} {bv:List BV} (o:OwnB h bb bv):SlAt h (some ⟨bb,0,none⟩) 9 (sL bv) (blockR h):=by
  refine ⟨fun i x hx=>?_⟩
  unfold sL at hx
  rw [List.getElem?_map] at hx
  obtain ⟨b,hb,rfl⟩:=Option.map_eq_some_iff.1 hx
  have hw:∀ c∈bv.map BV.c,c.length=9:=by intro c hc;obtain ⟨z,_,rfl⟩:=List.mem_map.1 hc;rfl
  obtain ⟨h1,h2⟩:=flat_take hw (i:=i) (x:=b.c) (by rw [List.getElem?_map,hb];rfl)
  have hmem:=List.mem_of_getElem? hb
  refine ⟨bb,0,_,47,rfl,o.m,by omega,b.A,b.k,?_,own_ins (o.row b hmem) (o.arg b hmem)⟩
  rw [Nat.zero_add,h1];exact BVc_eq b
def Foot (bb:Nat) (bv:List BV) (i:Nat):Prop:=i=bb∨∃ b∈bv,b.ins≠[]∧b.r=i
theorem sL_length (bv:List BV):(sL bv).length=bv.length:=by simp [sL]
theorem mem_set {α:Type} {l:List α} {i:Nat} {a b:α} (h:b∈l.set i a):b∈l∨b=a:=by
  rcases List.mem_or_eq_of_mem_set h with h|h
  · exact .inl h
  · exact .inr h
theorem bv_wid (bv:List BV):∀ c∈bv.map BV.c,c.length=9:=by intro c hc;obtain ⟨z,_,rfl⟩:=List.mem_map.1 hc;rfl
theorem bv_at {bv:List BV} {i:Nat} {b:BV} (hb:bv[i]?=some b):(bv.map BV.c)[i]?=some b.c:=by rw [List.getElem?_map,hb];rfl
theorem bv_write {bv:List BV} {i o off:Nat} {b b':BV} {vs:List Value} (hb:bv[i]?=some b) (ho:off=i * 9+o) (hl:o+vs.length≤9) (hs:setL b.c o vs=b'.c):setL (bv.map BV.c).flatten off vs=((bv.set i b').map BV.c).flatten:=by
  rw [ho,flat_set (bv_wid bv) (bv_at hb) hl,hs,List.map_set]
theorem bv_cell {bv:List BV} {i o off:Nat} {b:BV} {v:Value} (hb:bv[i]?=some b) (ho:off=i * 9+o) (hl:o < 9) (hv:b.c[o]?=some v):(bv.map BV.c).flatten[off]?=some v:=by
  rw [ho,flat_get (bv_wid bv) i o hl,bv_at hb];exact hv
theorem bv_cells {bv:List BV} {i o n off:Nat} {b:BV} (hb:bv[i]?=some b) (ho:off=i * 9+o) (hl:o+n≤9):takeV off n (bv.map BV.c).flatten=(b.c.drop o).take n∧off+n≤(bv.map BV.c).flatten.length:=by
  obtain ⟨h1,h2⟩:=flat_take (bv_wid bv) (bv_at hb)
  subst ho
  exact ⟨takeV_part h1 hl,by omega⟩
end Go.Proofs.Ytjhloakacicdiaa
namespace Go.Proofs.Ytjhloakacicdiaa
open Go.AH
attribute [local irreducible] W RS
theorem sL_at {bv:List BV} {i:Nat} {b:BV} (hb:bv[i]?=some b):(sL bv)[i]?=some b.s:=by simp [sL,hb]
theorem nextS_2 {t:TermS} (h:t.kind=2):nextS t=[t.goto,t.els]:=by unfold nextS;rw [if_neg (by omega),if_pos h]
structure FunB (h:Hp) (fb:Nat) (f:FuncS) (A1:Option Addr) (c1:Nat) (A2:Option Addr) (c2:Nat) (bb c3:Nat):Prop where
  m:h.m fb=some ⟨⟨funcC f A1 c1 A2 c2 (some ⟨bb,0,none⟩) c3⟩,35⟩
  rw:rwM≤fb
theorem ne_of_elem {h:Hp} {i j:Nat} {x y:Blk} (hx:h.m i=some x) (hy:h.m j=some y) (he:x.elem≠y.elem):i≠j:=by
  intro e
  subst e
  rw [hx] at hy
  injection hy with hy
  exact he (by rw [hy])
def totB (bv:List BV):Nat:=(bv.map fun b=>b.ins.length).sum
theorem sum_set {l:List Nat} {i v w:Nat} (h:l[i]?=some w):(l.set i v).sum+w=l.sum+v:=by
  induction l generalizing i with
  | nil=>simp at h
  | cons a l ih =>
    cases i with
    | zero =>
      simp only [List.getElem?_cons_zero,Option.some.injEq] at h
      subst h
      simp only [List.set_cons_zero,List.sum_cons];omega
    | succ i =>
      have:=ih (i:=i) (by simpa using h)
      simp only [List.set_cons_succ,List.sum_cons];omega
structure MeltI (h:Hp) (bb:Nat) (bv0:List BV) (fb:Nat) (f:FuncS) (A1:Option Addr) (c1:Nat) (A2:Option Addr) (c2 c3:Nat) (bv:List BV) (B:Hp):Prop where
  ob:OwnB B bb bv
  fn:FunB B fb f A1 c1 A2 c2 bb c3
  off:OffS (Foot bb bv0) h B
  foot:∀ i,Foot bb bv i→Foot bb bv0 i∨h.n≤i
  len:bv.length=bv0.length
  tgt:tgtOK (sL bv)
  tot:totB bv≤1000000
end Go.Proofs.Ytjhloakacicdiaa
namespace Go.Proofs.Ytjhloakacicdiaa
open Go.AH
attribute [local irreducible] W RS
theorem numN_tf (n:Int) (h:Hp):TF Try.prog 19 ⟨[.int .i64 n]⟩ h (.agg ⟨[.int .i64 (-1),.int .i64 n]⟩) h:=by
  refine TF.still (fn:=Try.f19) (c:=(Try.f19.body.getD .skip)) Try.func19 (by kernel_rfl) Try.ntmps19 (by kernel_rfl) (by simp) ?_
  conv=>arg 2;whnf
  repeat (first|((with_reducible apply RS.move);iterate 3 exact rfl)|((with_reducible apply RS.store);(iterate 5 exact rfl);exact Nat.le_of_ble_eq_true rfl;iterate 3 exact rfl)|((with_reducible apply RS.alloc);iterate 2 exact rfl)|((with_reducible apply RS.build);iterate 4 exact rfl)|((with_reducible apply RS.nil);exact mixed;kernel_rfl)|(with_reducible first|apply W.seq|apply W.ret|apply thenK_n)|((with_reducible apply W.reg);kernel_rfl))
  exact endsK_ret _ (.cons (.cellN rfl rfl rfl (Nat.le_of_ble_eq_true rfl)) .nil) ⟨rfl,rfl⟩
def blockA (b:BV):Value:=.agg ⟨rowVl 12 b.r b.ins::termC b.term⟩
theorem bv_term {bv:List BV} {i off:Nat} {b:BV} (hb:bv[i]?=some b) (ho:off=i * 9+1):takeV off 8 (bv.map BV.c).flatten=termC b.term∧off+8≤(bv.map BV.c).flatten.length :=
  bv_cells (o:=1) (n:=8) hb ho (by decide)
theorem rowVl_ne {α:Type} {sz r:Nat} {l:List α} (h:l≠[]):rowVl sz r l=.slice (some ⟨r,0,none⟩) l.length (capOf sz):=by
  cases l with
  | nil=>exact absurd rfl h
  | cons a l=>rfl
theorem ins_wid (l:List InsV):∀ c∈l.map insVC,c.length=12:=by intro c hc;obtain ⟨z,_,rfl⟩:=List.mem_map.1 hc;rfl
theorem reachPush_len:∀ (l:List Int) (s:SetS) (w:List Int),(reachPush s w l).1.length=s.length:=by
  intro l
  induction l with
  | nil=>intro s w;rfl
  | cons k l ih =>
    intro s w
    unfold reachPush
    split
    · exact ih s w
    · rw [ih,putS_length]
theorem reachGo_len {bl:List BlockS}:∀ (m:Nat) (s:SetS) (w:List Int),(reachGo bl m s w).length=s.length:=by
  intro m
  induction m with
  | zero=>intro s w;rfl
  | succ m ih =>
    intro s w
    cases w with
    | nil=>rfl
    | cons n w=>rw [reachGo,ih,reachPush_len]
theorem reachedS_len (bl:List BlockS):(reachedS bl).length=(bl.length+63) / 64:=by
  unfold reachedS
  split
  · rename_i h;rw [h];rfl
  · rw [reachGo_len,putS_length,emptyS_length];omega
end Go.Proofs.Ytjhloakacicdiaa
namespace Go.Proofs.Ytjhloakacicdiaa
open Go.AH
attribute [local irreducible] W RS
def keptV (r:SetS):Nat→List BV→List BV
  | _,[]=>[]
  | i,b::bv=>if hasS r i=true then b::keptV r (i+1) bv else keptV r (i+1) bv
theorem reachPush_has {k:Int}:∀ (l:List Int) (s:SetS) (w:List Int),hasS s k=true→hasS (reachPush s w l).1 k=true:=by
  intro l
  induction l with
  | nil=>intro s w h;exact h
  | cons a l ih =>
    intro s w h
    unfold reachPush
    split
    · exact ih _ _ h
    · exact ih _ _ (by rw [hasS_put,h];simp)
theorem reachGo_has {bl:List BlockS} {k:Int}:∀ (m:Nat) (s:SetS) (w:List Int),hasS s k=true→hasS (reachGo bl m s w) k=true:=by
  intro m
  induction m with
  | zero=>intro s w h;exact h
  | succ m ih =>
    intro s w h
    cases w with
    | nil=>exact h
    | cons n w=>rw [reachGo];exact ih _ _ (reachPush_has _ _ _ h)
theorem reached_zero {bl:List BlockS} (h:0 < bl.length):hasS (reachedS bl) 0=true:=by
  unfold reachedS
  rw [if_neg (by omega)]
  refine reachGo_has _ _ _ ?_
  rw [hasS_put,emptyS_length]
  simp
  exact .inr (by omega)
end Go.Proofs.Ytjhloakacicdiaa
namespace Go.Proofs.Ytjhloakacicdiaa
open Go.AH
attribute [local irreducible] W RS
theorem set_same {α:Type} {l:List α} {i:Nat} {a:α} (h:l[i]?=some a):l.set i a=l:=by
  apply List.ext_getElem?
  intro j
  rw [List.getElem?_set]
  by_cases e:i=j
  · subst e;rw [if_pos rfl,if_pos (List.getElem?_eq_some_iff.1 h).1,h]
  · rw [if_neg e]
end Go.Proofs.Ytjhloakacicdiaa
