/-
  What the functions that the law reaches compute,told by plain data;it holds of programs that pass the check of right form and are light.
-/
import Derived.Shelf.LaysM
import Derived.Shelf.Strconv.Itoa0
import Derived.Shelf.Strconv.Itoa1
import Derived.Shelf.Strconv.Itoa2
import Derived.Shelf.Strconv.Itoa3
import Derived.Shelf.Strconv.Itoa4
import Derived.Shelf.Strings.Builder1
import Derived.Shelf.Strings.Builder2
import Derived.Shelf.Strings.Builder2Cap
import Derived.Shelf.Strings.OnBuilder
import Derived.Test.YtjhloakacicdiaaDoorProg
import Derived.Test.YtjhloakacicdiaaDoorR1
import Derived.Test.YtjhloakacicdiaaDoorS2
set_option linter.unusedVariables false
set_option linter.unusedSimpArgs false
namespace Go.Proofs.YtjhloakacicdiaaDoor
open Go.AH
attribute [local irreducible] W RS
def wordC (w:BitVec 64):Value:=.int .u64 (w.toNat:Int)
def setC (s:SetS):List Value:=s.map wordC
@[simp] theorem setC_length (s:SetS):(setC s).length=s.length:=by simp [setC]
theorem setC_free (s:SetS):∀ v∈setC s,bnd 0 v:=by
  intro v hv
  obtain ⟨w,_,rfl⟩:=List.mem_map.1 hv
  simp [wordC]
theorem setC_get {s:SetS} {i:Nat} {w:BitVec 64} (h:s[i]?=some w):(setC s)[i]?=some (.int .u64 (w.toNat:Int)):=by simp [setC,h,wordC]
inductive SetAt (h:Hp):Option Addr→SetS→Prop
  | none:SetAt h none []
  | some {b:Nat} {s:SetS} (hm:h.m b=some ⟨⟨setC s⟩,90⟩) (hr:rwM≤b):SetAt h (some ⟨b,0,none⟩) s
def setH (h:Hp) (A:Option Addr) (s:SetS):Hp:=match A with
  | some a=>h.set a.block ⟨⟨setC s⟩,90⟩
  | none=>h
theorem setC_set {s:SetS} {k:Nat} {f:BitVec 64→BitVec 64} {w:BitVec 64} (h:s[k]?=some w):setL (setC s) (0+k * 1) [.int .u64 ((f w).toNat:Int)]=setC (s.modify k f):=by
  rw [Nat.zero_add,Nat.mul_one]
  rw [setL_cons,setL_nil]
  apply List.ext_getElem?
  intro i
  rw [List.getElem?_set]
  unfold setC
  simp only [List.getElem?_map,mod_get]
  obtain ⟨hk,h2⟩:=List.getElem?_eq_some_iff.1 h
  by_cases e:k=i
  · subst e
    simp [hk,wordC,h2]
  · simp [e]
theorem setC_put {s:SetS} {i:Int} {w:BitVec 64} (h:s[i.toNat / 64]?=some w) (h0:0≤i):setL (setC s) (0+i.toNat / 64 * 1) [.int .u64 ((w ||| 1#64 <<< (i.toNat % 64)).toNat:Int)]=setC (putS s i):=by
  unfold putS
  rw [if_pos h0]
  exact setC_set (f:=fun w=>w ||| bitS i.toNat) (w:=w) h
theorem setC_out {s:SetS} {i:Int} {w:BitVec 64} (h:s[i.toNat / 64]?=some w) (h0:0≤i):setL (setC s) (0+i.toNat / 64 * 1) [.int .u64 ((w &&& ~~~ (1#64 <<< (i.toNat % 64))).toNat:Int)]=setC (outS s i):=by
  unfold outS
  rw [if_pos h0]
  exact setC_set (f:=fun w=>w &&& ~~~ bitS i.toNat) (w:=w) h
theorem bit_and (w:BitVec 64) (k:Nat):((((w >>> k) &&& 1#64).toNat:Int) == 1)=w.getLsbD k:=by
  have h4:(w >>> k) &&& 1#64=if w.getLsbD k then 1#64 else 0#64:=by
    apply BitVec.eq_of_getLsbD_eq
    intro i hi
    simp only [BitVec.getLsbD_and,BitVec.getLsbD_ushiftRight,BitVec.getLsbD_one]
    cases hw:w.getLsbD k<;>by_cases hi0:i=0<;>simp [hi0,hw]
  rw [h4]
  cases w.getLsbD k<;>decide
theorem has_tf (s:SetS) (A:Option Addr) (c:Nat) (i:Int) (hi:fitI i) (hl:s.length≤1000000000) (h:Hp) (hs:SetAt h A s):TF Tryd.prog 21 ⟨[.slice A s.length c,.int .i64 i]⟩ h (.bool (hasS s i)) h:=by
  obtain ⟨h0,h1⟩:=hi
  cases hs with
  | none =>
    refine TF.still (fn:=Tryd.f21) (c:=(Tryd.f21.body.getD .skip)) Tryd.func21 (by kernel_rfl) Tryd.ntmps21 (by kernel_rfl) (by simp) ?_
    conv=>arg 2;whnf
    repeat' (first|((with_reducible apply RS.quo64);(iterate 3 exact rfl);omega)|((with_reducible first|apply RS.move|apply RS.assign|apply RS.lenSl);iterate 3 exact rfl)|((with_reducible apply RS.pickT);iterate 4 exact rfl)|((with_reducible apply RS.pickF);iterate 4 exact rfl)|((with_reducible apply RS.cmpC);iterate 5 exact rfl)|((with_reducible apply RS.cmpNat);iterate 5 exact rfl)|((with_reducible apply RS.skip);iterate 2 exact rfl)|((with_reducible apply RS.nil);exact mixed;kernel_rfl)|(with_reducible first|apply W.seq|apply W.ret|apply thenK_n)|((with_reducible apply W.reg);kernel_rfl)|(((with_reducible apply RS.splitD);iterate 2 exact rfl)<;>intro _)|((((with_reducible apply RS.splitG);iterate 2 exact rfl)<;>intro _)<;>(fail_if_success cases ‹true=false›)<;>(fail_if_success cases ‹false=true›))|(((with_reducible apply W.condD);exact rfl)<;>intro _)|((((with_reducible apply W.cond);exact rfl)<;>intro _)<;>(fail_if_success cases ‹true=false›)<;>(fail_if_success cases ‹false=true›)))
    all_goals refine endsK_ret _ (.cons (.tmp rfl) .nil) ⟨rfl,?_⟩
    all_goals simp [resultOf,hasS]
  | some hm hr =>
    rename_i b
    refine TF.dom fun hd=>?_
    have hn:=hd _ _ hm
    refine TF.still (fn:=Tryd.f21) (c:=(Tryd.f21.body.getD .skip)) Tryd.func21 (by kernel_rfl) Tryd.ntmps21 (by kernel_rfl) (by simp) ?_
    conv=>arg 2;whnf
    by_cases hlt:0≤i∧i.toNat / 64 < s.length
    · obtain ⟨w,hw⟩:∃ w,s[i.toNat / 64]?=some w:=⟨_,List.getElem?_eq_getElem hlt.2⟩
      obtain ⟨hge,hlt⟩:=hlt
      repeat (first|((with_reducible apply RS.quo64);(iterate 3 exact rfl);omega)|((with_reducible apply RS.rem64);(iterate 3 exact rfl);omega)|((with_reducible apply RS.shrW);(iterate 4 exact rfl);exact Nat.mod_lt _ (by decide))|((with_reducible apply RS.and1W);iterate 3 exact rfl)|((with_reducible apply RS.indexAddrS);(iterate 5 exact rfl);omega)|((with_reducible apply RS.load1B);(iterate 3 exact rfl);exact hm;exact hn;(rw [Nat.mul_one,Nat.zero_add];exact setC_get hw))|((with_reducible first|apply RS.move|apply RS.assign|apply RS.lenSl);iterate 3 exact rfl)|((with_reducible apply RS.pickT);iterate 4 exact rfl)|((with_reducible apply RS.cmpT);(iterate 4 exact rfl);(simp only [cmpP];omega))|((with_reducible apply RS.cmpC);iterate 5 exact rfl)|((with_reducible apply RS.nil);exact mixed;kernel_rfl)|(with_reducible first|apply W.seq|apply W.ret|apply thenK_n)|((with_reducible apply W.reg);kernel_rfl))
      repeat' ((first|(((with_reducible apply RS.splitD);iterate 2 exact rfl)<;>intro _)|((((with_reducible apply RS.splitG);iterate 2 exact rfl)<;>intro _)<;>(fail_if_success cases ‹true=false›)<;>(fail_if_success cases ‹false=true›))|(((with_reducible apply W.condD);exact rfl)<;>intro _)|((((with_reducible apply W.cond);exact rfl)<;>intro _)<;>(fail_if_success cases ‹true=false›)<;>(fail_if_success cases ‹false=true›)))<;>repeat (fail))
      all_goals refine endsK_ret _ (.cons (.tmp rfl) .nil) ⟨rfl,?_⟩
      have e:hasS s i=w.getLsbD (i.toNat % 64):=by unfold hasS;rw [hw];simp [hge]
      rw [e,← bit_and];rfl
    · have e:hasS s i=false:=by
        unfold hasS
        by_cases h0:0≤i
        · have:s[i.toNat / 64]?=none:=by rw [List.getElem?_eq_none_iff];omega
          rw [this];simp
        · simp [h0]
      rw [e]
      repeat' (first|((with_reducible apply RS.quo64);(iterate 3 exact rfl);omega)|((with_reducible first|apply RS.move|apply RS.assign|apply RS.lenSl);iterate 3 exact rfl)|((with_reducible apply RS.pickT);iterate 4 exact rfl)|((with_reducible apply RS.pickF);iterate 4 exact rfl)|((with_reducible apply RS.cmpF);(iterate 4 exact rfl);(simp only [cmpN];omega))|((with_reducible apply RS.cmpC);iterate 5 exact rfl)|((with_reducible apply RS.skip);iterate 2 exact rfl)|((with_reducible apply RS.nil);exact mixed;kernel_rfl)|(with_reducible first|apply W.seq|apply W.ret|apply thenK_n)|((with_reducible apply W.reg);kernel_rfl)|(((with_reducible apply RS.splitD);iterate 2 exact rfl)<;>intro _)|((((with_reducible apply RS.splitG);iterate 2 exact rfl)<;>intro _)<;>(fail_if_success cases ‹true=false›)<;>(fail_if_success cases ‹false=true›))|(((with_reducible apply W.condD);exact rfl)<;>intro _)|((((with_reducible apply W.cond);exact rfl)<;>intro _)<;>(fail_if_success cases ‹true=false›)<;>(fail_if_success cases ‹false=true›)))
      all_goals exact endsK_ret _ (.cons (.tmp rfl) .nil) ⟨rfl,by simp [resultOf];try omega⟩
theorem setH_ok {P:Program} {h:Hp} (s0:Sat P h) {A:Option Addr} {s s':SetS} (hs:SetAt h A s):h.n≤(setH h A s').n∧∀ i b,(setH h A s').m i=some b→i < (setH h A s').n∧∀ u∈b.cells,bnd (setH h A s').n u:=by
  cases hs with
  | none=>exact ⟨Nat.le_refl _,fun i b hb=>⟨s0.dom i b hb,s0.bd i b hb⟩⟩
  | some hm hr =>
    rename_i k
    refine ⟨Nat.le_refl _,fun i b hb=>?_⟩
    have hb:(if i=k then some ⟨⟨setC s'⟩,90⟩ else h.m i)=some b:=hb
    split at hb
    · rename_i e
      simp only [Option.some.injEq] at hb
      subst hb;subst e
      exact ⟨s0.dom _ _ hm,fun u hu=>bnd_mono (Nat.zero_le _) _ (setC_free _ u (by simpa using hu))⟩
    · exact ⟨s0.dom i b hb,s0.bd i b hb⟩
theorem setH_same {h:Hp} {A:Option Addr} {s:SetS} (hs:SetAt h A s):setH h A s=h:=by
  cases hs with
  | none=>rfl
  | some hm hr =>
    rename_i k
    refine Hp.eq (fun i=>?_) rfl
    show (if i=k then some _ else h.m i)=h.m i
    split
    · rename_i e;rw [e,hm]
    · rfl
theorem put_no {s:SetS} {i:Int} (h:¬ (0≤i∧i.toNat / 64 < s.length)):putS s i=s:=by
  unfold putS
  split
  · apply List.ext_getElem?
    intro j
    rw [mod_get]
    split
    · have:s[j]?=none:=by rw [List.getElem?_eq_none_iff];omega
      rw [this];rfl
    · rfl
  · rfl
theorem out_no {s:SetS} {i:Int} (h:¬ (0≤i∧i.toNat / 64 < s.length)):outS s i=s:=by
  unfold outS
  split
  · apply List.ext_getElem?
    intro j
    rw [mod_get]
    split
    · have:s[j]?=none:=by rw [List.getElem?_eq_none_iff];omega
      rw [this];rfl
    · rfl
  · rfl
theorem put_tf (s:SetS) (A:Option Addr) (c:Nat) (i:Int) (hi:fitI i) (hl:s.length≤1000000000) (h:Hp) (hs:SetAt h A s):TF Tryd.prog 18 ⟨[.slice A s.length c,.int .i64 i]⟩ h (.tuple #[]) (setH h A (putS s i)):=by
  obtain ⟨h0,h1⟩:=hi
  refine TF.exact (fn:=Tryd.f18) (c:=(Tryd.f18.body.getD .skip)) Tryd.func18 (by kernel_rfl) Tryd.ntmps18 (by kernel_rfl) (fun s0=>⟨(setH_ok s0 hs).1,by simp,(setH_ok s0 hs).2⟩) fun π s0=>?_
  conv=>arg 2;whnf
  by_cases hlt:0≤i∧i.toNat / 64 < s.length
  · obtain ⟨w,hw⟩:∃ w,s[i.toNat / 64]?=some w:=⟨_,List.getElem?_eq_getElem hlt.2⟩
    obtain ⟨hge,hlt⟩:=hlt
    cases hs with
    | none=>simp at hw
    | some hm hr =>
      have hn:=s0.dom _ _ hm
      repeat (first|((with_reducible apply RS.quo64);(iterate 3 exact rfl);omega)|((with_reducible apply RS.rem64);(iterate 3 exact rfl);omega)|((with_reducible apply RS.shlW);(iterate 3 exact rfl);exact Nat.mod_lt _ (by decide))|((with_reducible apply RS.orW);iterate 4 exact rfl)|((with_reducible apply RS.indexAddrS);(iterate 5 exact rfl);omega)|((with_reducible apply RS.load1B);(iterate 3 exact rfl);exact hm;exact hn;(rw [Nat.mul_one,Nat.zero_add];exact setC_get hw))|((with_reducible apply RS.storeB);(iterate 3 exact rfl);exact hm;exact hn;exact hr;(rw [setC_length];omega);(iterate 2 exact rfl);first|exact setC_put hw hge|exact setC_out hw hge)|((with_reducible first|apply RS.move|apply RS.lenSl);iterate 3 exact rfl)|((with_reducible apply RS.pickT);iterate 4 exact rfl)|((with_reducible apply RS.cmpT);(iterate 4 exact rfl);(simp only [cmpP];omega))|((with_reducible apply RS.nil);exact mixed;kernel_rfl)|(with_reducible first|apply W.seq|apply thenK_n)|((with_reducible apply W.reg);kernel_rfl)|((with_reducible apply W.condT);kernel_rfl;exact rfl))
      repeat' ((first|(((with_reducible apply RS.splitD);iterate 2 exact rfl)<;>intro _)|((((with_reducible apply RS.splitG);iterate 2 exact rfl)<;>intro _)<;>(fail_if_success cases ‹true=false›)<;>(fail_if_success cases ‹false=true›))|(((with_reducible apply W.condD);exact rfl)<;>intro _)|((((with_reducible apply W.cond);exact rfl)<;>intro _)<;>(fail_if_success cases ‹true=false›)<;>(fail_if_success cases ‹false=true›)))<;>repeat (fail))
      all_goals exact endsK_normal [] .nil (fun B' a=>⟨rfl,a.up⟩)
  · rw [put_no hlt,setH_same hs]
    repeat' (first|((with_reducible apply RS.quo64);(iterate 3 exact rfl);omega)|((with_reducible first|apply RS.move|apply RS.lenSl);iterate 3 exact rfl)|((with_reducible apply RS.pickT);iterate 4 exact rfl)|((with_reducible apply RS.pickF);iterate 4 exact rfl)|((with_reducible apply RS.cmpF);(iterate 4 exact rfl);(simp only [cmpN];omega))|((with_reducible apply RS.cmpC);iterate 5 exact rfl)|((with_reducible apply RS.skip);iterate 2 exact rfl)|((with_reducible apply RS.nil);exact mixed;kernel_rfl)|(with_reducible first|apply W.seq|apply W.skip|apply thenK_n)|((with_reducible apply W.reg);kernel_rfl)|((with_reducible apply W.condF);kernel_rfl;exact rfl)|(((with_reducible apply RS.splitD);iterate 2 exact rfl)<;>intro _)|((((with_reducible apply RS.splitG);iterate 2 exact rfl)<;>intro _)<;>(fail_if_success cases ‹true=false›)<;>(fail_if_success cases ‹false=true›))|(((with_reducible apply W.condD);exact rfl)<;>intro _)|((((with_reducible apply W.cond);exact rfl)<;>intro _)<;>(fail_if_success cases ‹true=false›)<;>(fail_if_success cases ‹false=true›)))
    all_goals exact endsK_normal [] .nil (fun B' a=>⟨rfl,a.up⟩)
theorem out_tf (s:SetS) (A:Option Addr) (c:Nat) (i:Int) (hi:fitI i) (hl:s.length≤1000000000) (h:Hp) (hs:SetAt h A s):TF Tryd.prog 49 ⟨[.slice A s.length c,.int .i64 i]⟩ h (.tuple #[]) (setH h A (outS s i)):=by
  obtain ⟨h0,h1⟩:=hi
  refine TF.exact (fn:=Tryd.f49) (c:=(Tryd.f49.body.getD .skip)) Tryd.func49 (by kernel_rfl) Tryd.ntmps49 (by kernel_rfl) (fun s0=>⟨(setH_ok s0 hs).1,by simp,(setH_ok s0 hs).2⟩) fun π s0=>?_
  conv=>arg 2;whnf
  by_cases hlt:0≤i∧i.toNat / 64 < s.length
  · obtain ⟨w,hw⟩:∃ w,s[i.toNat / 64]?=some w:=⟨_,List.getElem?_eq_getElem hlt.2⟩
    obtain ⟨hge,hlt⟩:=hlt
    cases hs with
    | none=>simp at hw
    | some hm hr =>
      have hn:=s0.dom _ _ hm
      repeat (first|((with_reducible apply RS.quo64);(iterate 3 exact rfl);omega)|((with_reducible apply RS.rem64);(iterate 3 exact rfl);omega)|((with_reducible apply RS.shlW);(iterate 3 exact rfl);exact Nat.mod_lt _ (by decide))|((with_reducible apply RS.andNotW);iterate 4 exact rfl)|((with_reducible apply RS.indexAddrS);(iterate 5 exact rfl);omega)|((with_reducible apply RS.load1B);(iterate 3 exact rfl);exact hm;exact hn;(rw [Nat.mul_one,Nat.zero_add];exact setC_get hw))|((with_reducible apply RS.storeB);(iterate 3 exact rfl);exact hm;exact hn;exact hr;(rw [setC_length];omega);(iterate 2 exact rfl);first|exact setC_put hw hge|exact setC_out hw hge)|((with_reducible first|apply RS.move|apply RS.lenSl);iterate 3 exact rfl)|((with_reducible apply RS.pickT);iterate 4 exact rfl)|((with_reducible apply RS.cmpT);(iterate 4 exact rfl);(simp only [cmpP];omega))|((with_reducible apply RS.nil);exact mixed;kernel_rfl)|(with_reducible first|apply W.seq|apply thenK_n)|((with_reducible apply W.reg);kernel_rfl)|((with_reducible apply W.condT);kernel_rfl;exact rfl))
      repeat' ((first|(((with_reducible apply RS.splitD);iterate 2 exact rfl)<;>intro _)|((((with_reducible apply RS.splitG);iterate 2 exact rfl)<;>intro _)<;>(fail_if_success cases ‹true=false›)<;>(fail_if_success cases ‹false=true›))|(((with_reducible apply W.condD);exact rfl)<;>intro _)|((((with_reducible apply W.cond);exact rfl)<;>intro _)<;>(fail_if_success cases ‹true=false›)<;>(fail_if_success cases ‹false=true›)))<;>repeat (fail))
      all_goals exact endsK_normal [] .nil (fun B' a=>⟨rfl,a.up⟩)
  · rw [out_no hlt,setH_same hs]
    repeat' (first|((with_reducible apply RS.quo64);(iterate 3 exact rfl);omega)|((with_reducible first|apply RS.move|apply RS.lenSl);iterate 3 exact rfl)|((with_reducible apply RS.pickT);iterate 4 exact rfl)|((with_reducible apply RS.pickF);iterate 4 exact rfl)|((with_reducible apply RS.cmpF);(iterate 4 exact rfl);(simp only [cmpN];omega))|((with_reducible apply RS.cmpC);iterate 5 exact rfl)|((with_reducible apply RS.skip);iterate 2 exact rfl)|((with_reducible apply RS.nil);exact mixed;kernel_rfl)|(with_reducible first|apply W.seq|apply W.skip|apply thenK_n)|((with_reducible apply W.reg);kernel_rfl)|((with_reducible apply W.condF);kernel_rfl;exact rfl)|(((with_reducible apply RS.splitD);iterate 2 exact rfl)<;>intro _)|((((with_reducible apply RS.splitG);iterate 2 exact rfl)<;>intro _)<;>(fail_if_success cases ‹true=false›)<;>(fail_if_success cases ‹false=true›))|(((with_reducible apply W.condD);exact rfl)<;>intro _)|((((with_reducible apply W.cond);exact rfl)<;>intro _)<;>(fail_if_success cases ‹true=false›)<;>(fail_if_success cases ‹false=true›)))
    all_goals exact endsK_normal [] .nil (fun B' a=>⟨rfl,a.up⟩)
theorem rep_set (n:Nat):repL (cellsV (.int .u64 0)) n=setC (List.replicate n 0):=by
  induction n with
  | zero=>rfl
  | succ n ih=>rw [repL,ih,List.replicate_succ];rfl
theorem empty_len {n:Int} (h:0≤n):((n+63).toNat / 64:Nat)=((max n 0).toNat+63) / 64:=by omega
theorem RS.max0 {P:Program} {ops:Array Oper} {draw:Bool} {rs:List Rk} {l:List Oper} {fl:List (Nat × Value)} {nt:Nat} {h:SH} {K:Fr→SH→Prop} {d:Tmp} {ty:TypeId} {pos:String} {af:Array Edge} {gd:Option (Nat × Bool)} {t t':TypeId} {x:Operand} {a:Int} (hw:wantB ops ⟨some d,.call { callee:=.builtin .max,args:=#[x,.const (.int .i64 0)],argTypes:=#[t,t'] },ty,pos,af,gd⟩ ⟨fl,nt⟩=some true) (hd:Nat.blt d nt=true)
    (hx:Fr.ev ⟨fl,nt⟩ x=some (.int .i64 a)) (ha:0≤a)
    (hk:RS P ops draw (recP h.k false [] (some [])::rs) l ⟨(d,.int .i64 a)::fl,nt⟩ h K):RS P ops draw rs (⟨some d,.call { callee:=.builtin .max,args:=#[x,.const (.int .i64 0)],argTypes:=#[t,t'] },ty,pos,af,gd⟩::l) ⟨fl,nt⟩ h K:=by
  refine RS.maxI hw hd hx rfl ?_
  rw [if_neg (by omega)];exact hk
theorem empty_tf (n:Int) (h0:0≤n) (h1:n≤1000000) (h:Hp):TF Tryd.prog 45 ⟨[.int .i64 n]⟩ h (.slice (some ⟨h.n,0,none⟩) (emptyS n).length (emptyS n).length) (h.push ⟨⟨setC (emptyS n)⟩,90⟩):=by
  have e:emptyS n=List.replicate ((n+63).toNat / 64) 0:=by unfold emptyS;rw [empty_len h0]
  rw [e,List.length_replicate]
  refine TF.ends (fn:=Tryd.f45) (c:=(Tryd.f45.body.getD .skip)) (Q:=RowQ (fun _=>setC (List.replicate ((n+63).toNat / 64) 0)) 90 ((n+63).toNat / 64) ((n+63).toNat / 64) h) Tryd.func45 (by kernel_rfl) Tryd.ntmps45 (by kernel_rfl) ?_ (row_end (fun v hv=>bnd_mono (Nat.zero_le _) _ (setC_free _ v hv)))
  conv=>arg 2;whnf
  repeat (first|((with_reducible apply RS.quo64);(iterate 3 exact rfl);omega)|((with_reducible apply RS.max0);(iterate 3 exact rfl);omega)|((with_reducible apply RS.makeSliceF);(iterate 6 exact rfl);omega;exact rep_set _;exact setC_free _)|((with_reducible first|apply RS.move|apply RS.assign);iterate 3 exact rfl)|((with_reducible apply RS.binFit);(iterate 5 exact rfl);omega)|((with_reducible apply RS.nil);exact mixed;kernel_rfl)|(with_reducible first|apply W.seq|apply W.ret|apply thenK_n)|((with_reducible apply W.reg);kernel_rfl))
  all_goals exact endsK_ret _ (.cons (.tmp rfl) .nil) ⟨rfl,0,Nat.lt_succ_self 0,rfl,rfl⟩
end Go.Proofs.YtjhloakacicdiaaDoor
namespace Go.Proofs.YtjhloakacicdiaaDoor
open Go.AH
attribute [local irreducible] W RS
def OffS (S:Nat→Prop) (h h':Hp):Prop:=h.n≤h'.n∧∀ i,i < h.n→¬ S i→h'.m i=h.m i
def Old (h h':Hp):Prop:=h.n≤h'.n∧∀ i,i < h.n→h'.m i=h.m i
theorem Old.refl (h:Hp):Old h h:=⟨Nat.le_refl _,fun _ _=>rfl⟩
theorem Old.trans {a b c:Hp} (h1:Old a b) (h2:Old b c):Old a c:=⟨Nat.le_trans h1.1 h2.1,fun i hi=>by rw [h2.2 i (Nat.lt_of_lt_of_le hi h1.1),h1.2 i hi]⟩
theorem Old.off {S:Nat→Prop} {a b:Hp} (h1:Old a b):OffS S a b:=⟨h1.1,fun i hi _=>h1.2 i hi⟩
theorem OffS.refl (S:Nat→Prop) (h:Hp):OffS S h h:=⟨Nat.le_refl _,fun _ _ _=>rfl⟩
theorem OffS.trans {S T:Nat→Prop} {a b c:Hp} (h1:OffS S a b) (h2:OffS T b c) (hs:∀ i,i < a.n→T i→S i):OffS S a c :=
  ⟨Nat.le_trans h1.1 h2.1,fun i hi hn=>by rw [h2.2 i (Nat.lt_of_lt_of_le hi h1.1) (fun ht=>hn (hs i hi ht)),h1.2 i hi hn]⟩
theorem OffS.mono {S T:Nat→Prop} {a b:Hp} (h1:OffS S a b) (hs:∀ i,i < a.n→S i→T i):OffS T a b:=⟨h1.1,fun i hi hn=>h1.2 i hi fun h=>hn (hs i hi h)⟩
theorem OffS.old {S:Nat→Prop} {a b:Hp} (h1:OffS S a b) (hs:∀ i,i < a.n→¬ S i):Old a b:=⟨h1.1,fun i hi=>h1.2 i hi (hs i hi)⟩
theorem Old.up {a b:Hp} (h:Old a b) (hd:∀ i x,a.m i=some x→i < a.n):∀ i x,a.m i=some x→b.m i=some x:=fun i x hx=>by rw [h.2 i (hd i x hx)];exact hx
theorem Old.push (h:Hp) (b:Blk):Old h (h.push b):=⟨Nat.le_succ _,fun i hi=>by show (if i=h.n then some b else h.m i)=_;rw [if_neg (by omega)]⟩
theorem push_new (h:Hp) (b:Blk):(h.push b).m h.n=some b:=by show (if h.n=h.n then some b else h.m h.n)=_;rw [if_pos rfl]
theorem OffS.set (h:Hp) (i:Nat) (b:Blk):OffS (fun j=>j=i) h (h.set i b):=⟨Nat.le_refl _,fun j _ hn=>by show (if j=i then some b else h.m j)=_;rw [if_neg hn]⟩
theorem _root_.Go.AH.Absb.oldH {P:Program} {h:Hp} {π:Nat→Nat} {k:Nat} {l:List (Nat × Option Blk)} {B:Hp} (a:Absb (P:=P) ⟨h,π,k,l⟩ B):Old h B:=⟨a.le,a.old⟩
def IntAt (h:Hp) (L:Option Addr) (l:List Int):Prop:=l=[]∨∃ nr,L=some ⟨nr,0,none⟩∧h.m nr=some ⟨⟨l.map (.int .i64)⟩,3⟩
theorem IntAt.up {h H:Hp} {L:Option Addr} {l:List Int} (s:IntAt h L l) (hu:∀ i b,h.m i=some b→H.m i=some b):IntAt H L l:=by
  rcases s with s|⟨nr,h1,h2⟩
  · exact .inl s
  · exact .inr ⟨nr,h1,hu _ _ h2⟩
theorem next_ex (t:TermS) (h:Hp):EX Tryd.prog 46 [.agg ⟨termC t⟩] h (fun v h'=>∃ A c,v=.slice A (nextS t).length c∧IntAt h' A (nextS t)∧Old h h'∧∀ a,A=some a→h.n≤a.block):=by
  have new:∀ a:Addr,some (⟨h.n,0,none⟩:Addr)=some a→h.n≤a.block:=fun a ha=>by injection ha with ha;rw [← ha];exact Nat.le_refl _
  unfold nextS
  split
  · rename_i hk
    refine (TF.ex (next1_tf t hk h)).mono ?_
    rintro v h' _ ⟨rfl,rfl⟩
    exact ⟨_,_,rfl,.inr ⟨_,rfl,push_new _ _⟩,Old.push _ _,new⟩
  · split
    · rename_i _ hk
      refine (TF.ex (next2_tf t hk h)).mono ?_
      rintro v h' _ ⟨rfl,rfl⟩
      exact ⟨_,_,rfl,.inr ⟨_,rfl,push_new _ _⟩,Old.push _ _,new⟩
    · rename_i h1 h2
      refine (TF.ex (next0_tf t h1 h2 h)).mono ?_
      rintro v h' _ ⟨rfl,rfl⟩
      exact ⟨_,_,rfl,.inl rfl,Old.refl _,fun a ha=>by cases ha⟩
theorem argR_row {h:Hp} {b:Nat} {l:List ArgS} {e:TypeId} (hm:h.m b=some ⟨⟨argsC l⟩,e⟩):SlAt h (some ⟨b,0,none⟩) 2 l argR :=
  ⟨fun i a ha=>⟨b,0,argsC l,e,rfl,hm,by rw [argsC_length];have:=(List.getElem?_eq_some_iff.1 ha).1;omega,argsC_at ha⟩⟩
theorem treads_ex (t:TermS) (h:Hp):EX Tryd.prog 17 [.agg ⟨termC t⟩] h (fun v h'=>∃ A c,v=.slice A (treadsS t).length c∧SlAt h' A 2 (treadsS t) argR∧Old h h'):=by
  unfold treadsS
  split
  · rename_i hk
    refine (TF.ex (treads2_tf t hk h)).mono ?_
    rintro v h' _ ⟨rfl,rfl⟩
    exact ⟨_,_,rfl,argR_row (l:=[t.a,t.b]) (e:=46) (by simpa [argsC] using push_new _ _),Old.push _ _⟩
  · split
    · rename_i _ hk
      refine (TF.ex (treads3_tf t hk h)).mono ?_
      rintro v h' _ ⟨rfl,rfl⟩
      exact ⟨_,_,rfl,argR_row (l:=[t.a]) (e:=46) (by simpa [argsC] using push_new _ _),Old.push _ _⟩
    · rename_i h1 h2
      refine (TF.ex (treads0_tf t h1 h2 h)).mono ?_
      rintro v h' _ ⟨rfl,rfl⟩
      exact ⟨_,_,rfl,.nil,Old.refl _⟩
theorem reads_ex (x:InsS) (A:Option Addr) (c:Nat) (hn:x.args.length≤1000000000) (h:Hp) (hl:SlAt h A 2 x.args argR):EX Tryd.prog 50 [.agg ⟨insC x A c⟩] h (fun v h'=>∃ A' c',v=.slice A' (readsS x).length c'∧SlAt h' A' 2 (readsS x) argR∧Old h h'):=by
  by_cases h28:x.op=28
  · refine (TF.ex (reads28_tf x A c h28 h)).mono ?_
    rintro v h' _ ⟨rfl,rfl⟩
    have e:readsS x=x.args:=by unfold readsS;rw [if_pos h28]
    rw [e]
    exact ⟨_,_,rfl,hl,Old.refl _⟩
  by_cases h29:x.op=29
  · refine (TF.ex (reads29_tf x A c h29 hn h hl)).mono ?_
    rintro v h' _ ⟨rfl,rfl⟩
    have e:readsS x=x.a::x.args:=by unfold readsS;rw [if_neg h28,if_pos h29]
    rw [e]
    exact ⟨_,_,by rw [List.length_cons,Nat.add_comm],argR_row (push_new _ _),Old.push _ _⟩
  by_cases h2:twoS x.op=true∨x.op=27
  · refine (TF.ex (reads2_tf x A c h2 h)).mono ?_
    rintro v h' _ ⟨rfl,rfl⟩
    have e:readsS x=[x.a,x.b]:=by unfold readsS;rw [if_neg h28,if_neg h29,if_pos h2]
    rw [e]
    exact ⟨_,_,rfl,argR_row (l:=[x.a,x.b]) (e:=46) (by simpa [argsC] using push_new _ _),Old.push _ _⟩
  by_cases h3:23≤x.op∧x.op≤25
  · refine (TF.ex (reads0_tf x A c h3 h)).mono ?_
    rintro v h' _ ⟨rfl,rfl⟩
    have e:readsS x=[]:=by unfold readsS;rw [if_neg h28,if_neg h29,if_neg h2,if_pos h3]
    rw [e]
    exact ⟨_,_,rfl,.nil,Old.refl _⟩
  · rw [not_or] at h2
    refine (TF.ex (reads1_tf x A c (by simpa using h2.1) h3 (by omega) h)).mono ?_
    rintro v h' _ ⟨rfl,rfl⟩
    have e:readsS x=[x.a]:=by unfold readsS;rw [if_neg h28,if_neg h29,if_neg (not_or.2 h2),if_neg h3]
    rw [e]
    exact ⟨_,_,rfl,argR_row (l:=[x.a]) (e:=46) (by simpa [argsC] using push_new _ _),Old.push _ _⟩
end Go.Proofs.YtjhloakacicdiaaDoor
namespace Go.Proofs.YtjhloakacicdiaaDoor
open Go.AH
attribute [local irreducible] W RS
theorem RS.minN {P:Program} {ops:Array Oper} {draw:Bool} {rs:List Rk} {l:List Oper} {fl:List (Nat × Value)} {nt:Nat} {h:SH} {K:Fr→SH→Prop} {d:Tmp} {ty:TypeId} {pos:String} {af:Array Edge} {gd:Option (Nat × Bool)} {t t':TypeId} {x y:Operand} {a b:Nat} (hw:wantB ops ⟨some d,.call { callee:=.builtin .min,args:=#[x,y],argTypes:=#[t,t'] },ty,pos,af,gd⟩ ⟨fl,nt⟩=some true) (hd:Nat.blt d nt=true)
    (hx:Fr.ev ⟨fl,nt⟩ x=some (.int .i64 (a:Int))) (hy:Fr.ev ⟨fl,nt⟩ y=some (.int .i64 (b:Int)))
    (hk:RS P ops draw (recP h.k false [] (some [])::rs) l ⟨(d,.int .i64 ((min a b:Nat):Int))::fl,nt⟩ h K):RS P ops draw rs (⟨some d,.call { callee:=.builtin .min,args:=#[x,y],argTypes:=#[t,t'] },ty,pos,af,gd⟩::l) ⟨fl,nt⟩ h K:=by
  refine RS.free hw hd (v:=.int .i64 ((min a b:Nat):Int)) (fun c g H=>tx_two (u:=.int .i64 (a:Int)) (w:=.int .i64 (b:Int)) rfl (fun _ _=>by simp) (g.ev hx) (g.ev hy) (by simp) (by simp) (by simp) fun ev W hu hw'=>?_) (by simp) hk
  have hu:ev x=.int .i64 (a:Int):=hu
  have hw':ev y=.int .i64 (b:Int):=hw'
  have e:(if (b:Int) < (a:Int) then (b:Int) else (a:Int))=((min a b:Nat):Int):=by split<;>omega
  simp only [execOp,resolve,invoke,builtin,Sem.run_bind,Sem.run_pure,Result.andThen_ok,List.map_toArray,List.map_cons,List.map_nil,hu,hw',run_min_int2,e]
theorem word_ne (a b:BitVec 64):((a.toNat:Int) != (b.toNat:Int))=(a != b):=by
  by_cases h:a=b
  · subst h;simp
  · have:a.toNat≠b.toNat:=fun e=>h (BitVec.eq_of_toNat_eq e)
    have h2:(a.toNat:Int)≠(b.toNat:Int):=by omega
    rw [bne_iff_ne.2 h2,bne_iff_ne.2 h]
theorem RS.neqW {P:Program} {ops:Array Oper} {draw:Bool} {rs:List Rk} {l:List Oper} {fl:List (Nat × Value)} {nt:Nat} {h:SH} {K:Fr→SH→Prop} {d:Tmp} {ty:TypeId} {pos:String} {af:Array Edge} {gd:Option (Nat × Bool)} {t yt:TypeId} {x y:Operand} {a b:BitVec 64} (hw:wantB ops ⟨some d,.binOp .neq t x y yt,ty,pos,af,gd⟩ ⟨fl,nt⟩=some true) (hd:Nat.blt d nt=true)
    (hx:Fr.ev ⟨fl,nt⟩ x=some (.int .u64 (a.toNat:Int))) (hy:Fr.ev ⟨fl,nt⟩ y=some (.int .u64 (b.toNat:Int)))
    (hk:RS P ops draw (recP h.k false [] (some [])::rs) l ⟨(d,.bool (a != b))::fl,nt⟩ h K):RS P ops draw rs (⟨some d,.binOp .neq t x y yt,ty,pos,af,gd⟩::l) ⟨fl,nt⟩ h K:=by
  refine RS.bin hw hd hx hy (v:=.bool (a != b)) ?_ hk
  simp only [binI,word_ne]
theorem joinS_take0 (s o:SetS):joinS s (o.take 0)=s:=by cases s<;>rfl
theorem joinS_take (s o:SetS) (n:Nat) (h:s.length≤n∨o.length≤n):joinS s (o.take n)=joinS s o:=by
  apply List.ext_getElem?
  intro k
  rw [joinS_get,joinS_get,List.getElem?_take]
  cases hs:s[k]? with
  | none=>rfl
  | some w =>
    have hk:=(List.getElem?_eq_some_iff.1 hs).1
    by_cases hn:k < n
    · rw [if_pos hn]
    · have:o[k]?=none:=by rw [List.getElem?_eq_none_iff];omega
      rw [if_neg hn,this]
theorem joinS_at {s o:SetS} {i:Nat} {w:BitVec 64} (hw:s[i]?=some w):(joinS s (o.take i))[i]?=some w:=by
  rw [joinS_get,hw,List.getElem?_take];simp
theorem joinS_next {s o:SetS} {i:Nat} {w u:BitVec 64} (hw:s[i]?=some w) (hu:o[i]?=some u):joinS s (o.take (i+1))=(joinS s (o.take i)).modify i (fun _=>w ||| u):=by
  apply List.ext_getElem?
  intro k
  rw [mod_get,joinS_get,joinS_get,List.getElem?_take,List.getElem?_take]
  by_cases e:i=k
  · subst e;simp [hw,hu]
  · rw [if_neg e]
    by_cases h1:k < i
    · rw [if_pos (by omega),if_pos h1]
    · rw [if_neg (by omega),if_neg h1]
theorem joinS_nx_same {s o:SetS} {i:Nat} {w u:BitVec 64} (hw:s[i]?=some w) (hu:o[i]?=some u) (he:(w ||| u)=w):joinS s (o.take (i+1))=joinS s (o.take i):=by
  rw [joinS_next hw hu,he]
  apply List.ext_getElem?
  intro k
  rw [mod_get]
  split
  · rename_i e;subst e;rw [joinS_at hw];rfl
  · rfl
theorem joinS_more {s o:SetS} {i:Nat} {w u:BitVec 64} (hw:s[i]?=some w) (hu:o[i]?=some u) (he:(w ||| u)≠w):joinS s (o.take (i+1))≠s:=by
  intro h
  have:(joinS s (o.take (i+1)))[i]?=some (w ||| u):=by rw [joinS_get,hw,List.getElem?_take];simp [hu]
  rw [h,hw] at this
  exact he (Option.some.inj this).symm
theorem join_tf (s o:SetS) (A A':Option Addr) (c c':Nat) (hl:s.length≤1000000000) (hl':o.length≤1000000000) (h:Hp) (hs:SetAt h A s) (ho:SetAt h A' o) (hne:A≠A'∨A=none):TF Tryd.prog 47 ⟨[.slice A s.length c,.slice A' o.length c']⟩ h (.bool (joinS s o != s)) (setH h A (joinS s o)):=by
  refine TF.exact (fn:=Tryd.f47) (c:=(Tryd.f47.body.getD .skip)) Tryd.func47 (by kernel_rfl) Tryd.ntmps47 (by kernel_rfl) (fun s0=>⟨(setH_ok s0 hs).1,by simp,(setH_ok s0 hs).2⟩) fun π s0=>?_
  conv=>arg 2;whnf
  repeat (first|((with_reducible apply RS.minN);iterate 4 exact rfl)|((with_reducible first|apply RS.move|apply RS.assign|apply RS.lenSl);iterate 3 exact rfl)|((with_reducible apply RS.nil);exact mixed;kernel_rfl)|(with_reducible first|apply W.seq|apply W.block|apply thenK_n)|((with_reducible apply W.reg);kernel_rfl))
  refine W.joinNB (X:=Unit) (fun _=>[(5,.bool (joinS s o != s))]) (fun _ B=>∀ i b,(setH h A (joinS s o)).m i=some b→B.m i=some b) ?_ ?_
  · refine W.loopN (X:=Nat) (fun i=>[(0,.slice A s.length c),(1,.slice A' o.length c'),(12,.int .i64 ((min s.length o.length:Nat):Int)),(13,.int .i64 (i:Int)),(5,.bool (joinS s (o.take i) != s))]) (fun i B=>i≤min s.length o.length∧∀ j b,(setH h A (joinS s (o.take i))).m j=some b→B.m j=some b) (fun i=>min s.length o.length - i) (fun B' a=>⟨0,?_,by simp,fun j b hb=>a.up j b ?_⟩) ?_
    · rw [joinS_take0]
      simp only [bne_self_eq_false]
      exact ⟨rfl,rfl,rfl,rfl,rfl,trivial⟩
    · rw [joinS_take0,setH_same hs] at hb;exact hb
    · intro i B π sB hI
      obtain ⟨hi,hI⟩:=hI
      by_cases hlt:i < min s.length o.length
      · have h1:i < s.length:=by omega
        have h2:i < o.length:=by omega
        obtain ⟨w,hw⟩:∃ w,s[i]?=some w:=⟨_,List.getElem?_eq_getElem h1⟩
        obtain ⟨u,hu⟩:∃ u,o[i]?=some u:=⟨_,List.getElem?_eq_getElem h2⟩
        cases hs with
        | none=>simp at h1
        | some hm hr =>
          rename_i b
          cases ho with
          | none=>simp at h2
          | some hm' hr' =>
            rename_i b'
            have hbb:b'≠b:=by
              intro e;subst e;rcases hne with hne|hne
              · exact hne rfl
              · cases hne
            have hB:B.m b=some ⟨⟨setC (joinS s (o.take i))⟩,90⟩:=hI _ _ (by show (if b=b then _ else _)=_;rw [if_pos rfl])
            have hO:B.m b'=some ⟨⟨setC o⟩,90⟩:=hI _ _ (by show (if b'=b then _ else _)=_;rw [if_neg hbb];exact hm')
            have hBn:=sB.dom _ _ hB
            have hOn:=sB.dom _ _ hO
            repeat' (first|((with_reducible apply RS.orW);iterate 4 exact rfl)|((with_reducible apply RS.neqW);iterate 4 exact rfl)|((with_reducible apply RS.indexAddrS);(iterate 5 exact rfl);omega)|((with_reducible apply RS.load1B);(iterate 3 exact rfl);first|exact hB;exact hBn;(rw [Nat.mul_one,Nat.zero_add];exact setC_get (joinS_at hw))|exact hO;exact hOn;(rw [Nat.mul_one,Nat.zero_add];exact setC_get hu))|((with_reducible apply RS.storeB);(iterate 3 exact rfl);exact hB;exact hBn;exact hr;(rw [setC_length,joinS_length];omega);(iterate 2 exact rfl);exact setC_set (f:=fun _=>w ||| u) (joinS_at hw))|((with_reducible first|apply RS.move|apply RS.assign);iterate 3 exact rfl)|((with_reducible apply RS.cmpT);(iterate 4 exact rfl);(simp only [cmpP];omega))|((with_reducible apply RS.add1);(iterate 4 exact rfl);omega)|((with_reducible apply RS.nil);exact mixed;kernel_rfl)|(with_reducible first|apply W.seq|apply W.block|apply W.skip|apply thenK_n|apply blockK_n)|((with_reducible apply W.reg);kernel_rfl)|((with_reducible apply W.condT);kernel_rfl;exact rfl)|(((with_reducible apply RS.splitD);iterate 2 exact rfl)<;>intro _)|((((with_reducible apply RS.splitG);iterate 2 exact rfl)<;>intro _)<;>(fail_if_success cases ‹true=false›)<;>(fail_if_success cases ‹false=true›))|(((with_reducible apply W.condD);exact rfl)<;>intro _)|((((with_reducible apply W.cond);exact rfl)<;>intro _)<;>(fail_if_success cases ‹true=false›)<;>(fail_if_success cases ‹false=true›)))
            · refine roundN_n rfl fun B' a=>⟨i+1,?_,⟨by omega,fun j bb hb=>a.up j bb ?_⟩,by omega⟩
              · have hne':(joinS s (o.take (i+1)) != s)=true:=by rw [bne_iff_ne];exact joinS_more hw hu (by simpa using ‹(w ||| u != w)=true›)
                rw [hne']
                (repeat' (first|exact trivial|exact rfl|apply And.intro));done
              · rw [joinS_next hw hu] at hb
                have hb:(if j=b then some ⟨⟨setC ((joinS s (o.take i)).modify i fun _=>w ||| u)⟩,90⟩ else h.m j)=some bb:=hb
                show (if j=b then some ⟨⟨setC ((joinS s (o.take i)).modify i fun _=>w ||| u)⟩,90⟩ else B.m j)=some bb
                by_cases e:j=b
                · rw [if_pos e] at hb ⊢;exact hb
                · rw [if_neg e] at hb ⊢;exact hI j bb (by show (if j=b then _ else h.m j)=_;rw [if_neg e];exact hb)
            · have he:(w ||| u)=w:=by simpa using ‹(w ||| u != w)=false›
              refine roundN_n rfl fun B' a=>⟨i+1,?_,⟨by omega,fun j b hb=>a.up j b ?_⟩,by omega⟩
              · rw [joinS_nx_same hw hu he]
                (repeat' (first|exact trivial|exact rfl|apply And.intro));done
              · rw [joinS_nx_same hw hu he] at hb
                exact hI j b hb
      · have hge:min s.length o.length≤i:=by omega
        repeat (first|((with_reducible apply RS.cmpF);(iterate 4 exact rfl);(simp only [cmpN];omega))|((with_reducible apply RS.nil);exact mixed;kernel_rfl)|(with_reducible first|apply W.seq|apply W.exit|apply thenK_n|apply thenK_e|apply roundN_e)|((with_reducible apply W.reg);kernel_rfl)|((with_reducible apply W.condF);kernel_rfl;exact rfl)|((with_reducible apply blockK_hit);exact rfl))
        refine joinN_n rfl fun B' a=>⟨(),?_,fun j b hb=>a.up j b ?_⟩
        · rw [← joinS_take s o i (by omega)]
          (repeat' (first|exact trivial|exact rfl|apply And.intro));done
        · rw [← joinS_take s o i (by omega)] at hb
          exact hI j b hb
  · intro x B π sB hB
    repeat (first|((with_reducible first|apply RS.move|apply RS.assign);iterate 3 exact rfl)|((with_reducible apply RS.nil);exact mixed;kernel_rfl)|(with_reducible first|apply W.seq|apply W.ret|apply thenK_n)|((with_reducible apply W.reg);kernel_rfl))
    exact endsK_ret _ (.cons (.tmp rfl) .nil) (fun B' a=>⟨rfl,fun i b hb=>a.up i b (hB i b hb)⟩)
theorem setcopy_ex (s:SetS) (A:Option Addr) (c:Nat) (hl:s.length≤1000000000) (h:Hp) (hs:SetAt h A s):EX Tryd.prog 16 [.slice A s.length c] h (fun v h'=>∃ A' c',v=.slice A' s.length c'∧SetAt h' A' s∧Old h h'∧∀ a,A'=some a→h.n≤a.block):=by
  refine EX.intro (fn:=Tryd.f16) (c:=(Tryd.f16.body.getD .skip)) Tryd.func16 (by kernel_rfl) Tryd.ntmps16 (by kernel_rfl) fun π s0=>?_
  conv=>arg 2;whnf
  by_cases hs0:s.length=0
  · have e:s=[]:=List.length_eq_zero_iff.1 hs0
    repeat (first|((with_reducible apply RS.appendNil0);(iterate 4 exact rfl);exact hs0;kernel_rfl)|((with_reducible first|apply RS.move|apply RS.assign);iterate 3 exact rfl)|((with_reducible apply RS.nil);exact mixed;kernel_rfl)|(with_reducible first|apply W.seq|apply W.ret|apply thenK_n)|((with_reducible apply W.reg);kernel_rfl))
    refine endsK_ret _ (.cons (.tmp rfl) .nil) (fun B' a=>⟨none,0,by rw [hs0];rfl,by rw [e];exact .none,a.oldH,fun a ha=>by cases ha⟩)
  · cases hs with
    | none=>exact absurd rfl hs0
    | some hm hr =>
      have hn:=s0.dom _ _ hm
      have hcs:takeV 0 (s.length * 1) (setC s)=setC s:=by have:=takeV_all (setC s);rwa [setC_length,← Nat.mul_one s.length] at this
      repeat (first|((with_reducible apply RS.appendNilB);(iterate 6 exact rfl);exact hm;exact hn;(rw [setC_length];omega);omega;omega;omega;exact hcs)|((with_reducible first|apply RS.move|apply RS.assign);iterate 3 exact rfl)|((with_reducible apply RS.nil);exact mixed;kernel_rfl)|(with_reducible first|apply W.seq|apply W.ret|apply thenK_n)|((with_reducible apply W.reg);kernel_rfl))
      refine endsK_ret _ (.cons (.tmp rfl) .nil) (fun B' a=>?_)
      have hlo:h.n≤π 0:=a.lo 0 (Nat.lt_succ_self 0)
      have hm0:=a.loc 0 (Nat.lt_succ_self 0)
      have hrw:rwM≤π 0:=Nat.le_trans a.rw hlo
      refine ⟨some ⟨π 0,0,none⟩,capOf 1,rfl,.some hm0 hrw,a.oldH,fun b hb=>?_⟩
      simp only [Option.some.injEq] at hb
      rw [← hb];exact hlo
end Go.Proofs.YtjhloakacicdiaaDoor
namespace Go.Proofs.YtjhloakacicdiaaDoor
open Go.AH
attribute [local irreducible] W RS
def SN (A:Option Addr) (i:Nat):Prop:=A=some ⟨i,0,none⟩
theorem setAt_up {h H:Hp} {A:Option Addr} {s:SetS} (hs:SetAt h A s) (hu:∀ i b,h.m i=some b→H.m i=some b):SetAt H A s:=by
  cases hs with
  | none=>exact .none
  | some hm hr=>exact .some (hu _ _ hm) hr
theorem OffS.same {S:Nat→Prop} {a b c:Hp} (h1:OffS S a b) (h2:OffS S b c):OffS S a c:=h1.trans h2 fun _ _ h=>h
theorem setH_at {h:Hp} {A:Option Addr} {s s':SetS} (hs:SetAt h A s) (hl:s'.length=s.length):SetAt (setH h A s') A s':=by
  cases hs with
  | none=>rw [List.length_eq_zero_iff.1 hl];exact .none
  | some hm hr=>exact .some (by show (if _=_ then _ else _)=_;rw [if_pos rfl]) hr
theorem setH_off {h:Hp} {A:Option Addr} {s s':SetS} (hs:SetAt h A s):OffS (SN A) h (setH h A s'):=by
  cases hs with
  | none=>exact OffS.refl _ _
  | some hm hr =>
    refine (OffS.set _ _ _).mono fun i _ e=>?_
    subst e;rfl
def killA (h:Hp) (A:Option Addr):Hp:=match A with
  | some a=>h.kill a.block
  | none=>h
theorem killA_get {h:Hp} {A:Option Addr} {i:Nat} {b:Blk} (hk:(killA h A).m i=some b):h.m i=some b∧¬ SN A i:=by
  cases A with
  | none=>exact ⟨hk,fun e=>by cases e⟩
  | some a =>
    have hk:(if i=a.block then none else h.m i)=some b:=hk
    split at hk
    · cases hk
    · rename_i hne
      refine ⟨hk,fun e=>hne ?_⟩
      have e:some a=some ⟨i,0,none⟩:=e
      injection e with e
      rw [e]
theorem killA_in {h:Hp} {A:Option Addr} {i:Nat} {b:Blk} (hm:h.m i=some b) (hne:∀ a,A=some a→i≠a.block):(killA h A).m i=some b:=by
  cases A with
  | none=>exact hm
  | some a=>show (if i=a.block then none else h.m i)=some b;rw [if_neg (hne a rfl)];exact hm
theorem setC_noarg {s:SetS} {off:Nat} {a:ArgS} (h:takeV off 2 (setC s)=argC a):False:=by
  rw [takeV_eq] at h
  have h1:(argC a)[0]?=some (.int .i64 a.reg):=rfl
  rw [← h,List.getElem?_take_of_lt (by decide),List.getElem?_drop] at h1
  have h2:=List.mem_of_getElem? h1
  obtain ⟨w,_,hw⟩:=List.mem_map.1 h2
  cases hw
theorem SlAt.apart {h:Hp} {A L:Option Addr} {s:SetS} {l:List ArgS} (hl:SlAt h L 2 l argR) (hs:SetAt h A s):SlAt (killA h A) L 2 l argR:=by
  refine ⟨fun i x hx=>?_⟩
  obtain ⟨b,off,cs,e,h1,h2,h3,h4⟩:=hl.get i x hx
  refine ⟨b,off,cs,e,h1,killA_in h2 fun a ha hb=>?_,h3,h4⟩
  cases hs with
  | none=>cases ha
  | some hm hr =>
    injection ha with ha
    subst ha
    simp only at hb
    subst hb
    rw [hm] at h2
    injection h2 with h2
    injection h2 with h2 _
    injection h2 with h2
    subst h2
    exact setC_noarg h4
theorem offA_up {h B:Hp} {A:Option Addr} (hd:∀ i b,h.m i=some b→i < h.n) (ho:OffS (SN A) h B):∀ i b,(killA h A).m i=some b→B.m i=some b:=by
  intro i b hb
  obtain ⟨h1,h2⟩:=killA_get hb
  rw [ho.2 i (hd i b h1) h2];exact h1
theorem SlAt.setH {h:Hp} (hd:∀ i b,h.m i=some b→i < h.n) {A L:Option Addr} {s s':SetS} {l:List ArgS} (hl:SlAt h L 2 l argR) (hs:SetAt h A s):SlAt (setH h A s') L 2 l argR :=
  (hl.apart hs).mono (offA_up hd (setH_off hs)) fun _ _ h=>h
theorem useS_length (s:SetS) (l:List ArgS):(useS s l).length=s.length:=by
  unfold useS
  induction l generalizing s with
  | nil=>rfl
  | cons a l ih=>rw [List.foldl_cons,ih,putS_length]
theorem useS_take {s:SetS} {l:List ArgS} {i:Nat} {a:ArgS} (ha:l[i]?=some a):useS s (l.take (i+1))=putS (useS s (l.take i)) a.reg:=by
  have h1:=(List.getElem?_eq_some_iff.1 ha)
  obtain ⟨h1,h2⟩:=h1
  rw [List.take_succ_eq_append_getElem h1,h2]
  simp [useS]
set_option maxRecDepth 100000 in
theorem use_ex (s:SetS) (A:Option Addr) (c:Nat) (l:List ArgS) (L:Option Addr) (cL:Nat) (hsl:s.length≤1000000000) (hll:l.length≤1000000001) (hfit:∀ a∈l,fitI a.reg) (h:Hp) (hs:SetAt h A s) (hl:SlAt h L 2 l argR) :
    EX Tryd.prog 48 [.slice A s.length c,.slice L l.length cL] h (fun _ h'=>SetAt h' A (useS s l)∧OffS (SN A) h h'):=by
  refine EX.intro (fn:=Tryd.f48) (c:=(Tryd.f48.body.getD .skip)) Tryd.func48 (by kernel_rfl) Tryd.ntmps48 (by kernel_rfl) fun π s0=>?_
  conv=>arg 2;whnf
  have hd:=s0.dom
  have hap:=hl.apart hs
  repeat (first|((with_reducible first|apply RS.move|apply RS.lenSl);iterate 3 exact rfl)|((with_reducible apply RS.nil);exact mixed;kernel_rfl)|(with_reducible first|apply W.seq|apply W.block|apply thenK_n)|((with_reducible apply W.reg);kernel_rfl))
  refine W.loopN (X:=Nat) (fun i=>[(0,.slice A s.length c),(6,.slice L l.length cL),(7,.int .i64 (l.length:Int)),(8,.int .i64 (i:Int))]) (fun i B=>i≤l.length∧SetAt B A (useS s (l.take i))∧OffS (SN A) h B) (fun i=>l.length - i) (fun B' a=>⟨0,?_,by omega,?_,a.oldH.off⟩) ?_
  · (repeat' (first|exact trivial|exact rfl|apply And.intro));done
  · rw [List.take_zero];exact setAt_up hs a.up
  · intro i B π sB hI
    obtain ⟨hi,hset,hoff⟩:=hI
    by_cases hlt:i < l.length
    · obtain ⟨x,hx⟩:∃ x,l[i]?=some x:=⟨_,List.getElem?_eq_getElem hlt⟩
      obtain ⟨b,off,cs,e,rfl,hM,hMl,hMv⟩:=(hap.mono (offA_up hd hoff) fun _ _ h=>h).get i x hx
      have hMn:=sB.dom _ _ hM
      have hMv:takeV (off+i * 2) 2 cs=argC x:=hMv
      have hfa:=hfit x (List.mem_of_getElem? hx)
      have hsl:(useS s (l.take i)).length≤1000000000:=by rw [useS_length];exact hsl
      have hlen:s.length=(useS s (l.take i)).length:=(useS_length _ _).symm
      rw [hlen]
      repeat (first|((with_reducible apply RS.indexAddrS);(iterate 5 exact rfl);omega)|((with_reducible apply RS.loadNB);(iterate 3 exact rfl);exact hM;exact hMn;exact hMl;exact hMv)|((with_reducible apply RS.callEx);(iterate 3 exact rfl);intro B1 hB1;refine ⟨_,TF.ex (put_tf _ A c _ hfa hsl B1 (setAt_up hset hB1.up)),?_⟩;rintro v H' π ⟨rfl,rfl⟩ sH hle)|((with_reducible first|apply RS.move|apply RS.fieldAddr);iterate 3 exact rfl)|((with_reducible apply RS.cmpT);(iterate 4 exact rfl);(simp only [cmpP];omega))|((with_reducible apply RS.add1);(iterate 4 exact rfl);omega)|((with_reducible apply RS.load1);iterate 6 exact rfl)|((with_reducible apply RS.store);(iterate 5 exact rfl);exact Nat.le_of_ble_eq_true rfl;iterate 3 exact rfl)|((with_reducible apply RS.alloc);iterate 2 exact rfl)|((with_reducible apply RS.nil);exact mixed;kernel_rfl)|(with_reducible first|apply W.seq|apply W.block|apply W.skip|apply thenK_n|apply blockK_n)|((with_reducible apply W.reg);kernel_rfl)|((with_reducible apply W.condT);kernel_rfl;exact rfl))
      refine roundN_n rfl fun B' a=>⟨i+1,?_,⟨by omega,?_,?_⟩,by omega⟩
      · (repeat' (first|exact trivial|exact rfl|apply And.intro));done
      · rw [useS_take hx]
        exact setAt_up (setH_at (setAt_up hset hB1.up) (putS_length _ _)) a.up
      · exact ((hoff.same hB1.oldH.off).same (setH_off (setAt_up hset hB1.up))).same a.oldH.off
    · repeat (first|((with_reducible apply RS.cmpF);(iterate 4 exact rfl);(simp only [cmpN];omega))|((with_reducible apply RS.nil);exact mixed;kernel_rfl)|(with_reducible first|apply W.seq|apply W.exit|apply thenK_n|apply thenK_e|apply roundN_e)|((with_reducible apply W.reg);kernel_rfl)|((with_reducible apply W.condF);kernel_rfl;exact rfl)|((with_reducible apply blockK_hit);exact rfl))
      rw [List.take_of_length_le (by omega)] at hset
      exact endsK_normal [] .nil (fun B' a=>⟨setAt_up hset a.up,hoff.same a.oldH.off⟩)
theorem readsS_len (x:InsS) (h:x.args.length≤1000000000):(readsS x).length≤1000000001:=by
  unfold readsS
  repeat' split
  all_goals (try simp only [List.length_cons,List.length_nil])
  all_goals first|omega|decide
theorem back_ex (s:SetS) (A:Option Addr) (c:Nat) (x:InsS) (A2:Option Addr) (c2:Nat) (hsl:s.length≤1000000000) (hxl:x.args.length≤1000000000) (hfd:fitI x.dst) (hfit:∀ a∈readsS x,fitI a.reg) (h:Hp) (hs:SetAt h A s) (hl:SlAt h A2 2 x.args argR) :
    EX Tryd.prog 22 [.slice A s.length c,.agg ⟨insC x A2 c2⟩] h (fun _ h'=>SetAt h' A (backS s x)∧OffS (SN A) h h'):=by
  refine EX.intro (fn:=Tryd.f22) (c:=(Tryd.f22.body.getD .skip)) Tryd.func22 (by kernel_rfl) Tryd.ntmps22 (by kernel_rfl) fun π s0=>?_
  conv=>arg 2;whnf
  ((with_reducible apply W.seq);repeat (first|((with_reducible apply RS.box);iterate 3 exact rfl)|((with_reducible apply RS.nil);exact mixed;kernel_rfl)|((with_reducible apply W.reg);kernel_rfl)|(with_reducible apply thenK_n)))
  refine W.absorbX fun B0 π0 a0=>?_
  have hq:B0.m (π 0)=some ⟨⟨insC x A2 c2⟩,58⟩:=a0.loc 0 (Nat.lt_succ_self 0)
  have hqlo:h.n≤π 0:=a0.lo 0 (Nat.lt_succ_self 0)
  have hqn:π 0 < B0.n:=a0.hi 0 (Nat.lt_succ_self 0)
  have hs0:=setAt_up hs a0.up
  have hnq:¬ SN A (π 0):=by
    intro e
    cases hs with
    | none=>cases e
    | some hm hr =>
      have:=s0.dom _ _ hm
      have e:some _=some _:=e
      injection e with e
      injection e with e
      omega
  generalize π 0=q at *
  ((with_reducible apply W.seq);repeat (first|((with_reducible apply RS.callEx);(iterate 3 exact rfl);intro B1 hB1;refine ⟨_,TF.ex (out_tf s A c x.dst hfd hsl B1 (setAt_up hs0 hB1.up)),?_⟩;rintro v H' π ⟨rfl,rfl⟩ sH hle)|((with_reducible apply RS.load1B);(iterate 3 exact rfl);exact hq;exact hqn;exact rfl)|((with_reducible first|apply RS.move|apply RS.fieldAddr);iterate 3 exact rfl)|((with_reducible apply RS.nil);exact mixed;kernel_rfl)|((with_reducible apply W.reg);kernel_rfl)|(with_reducible apply thenK_n)))
  have hs1:SetAt (setH B1 A (outS s x.dst)) A (outS s x.dst):=setH_at (setAt_up hs0 hB1.up) (outS_length _ _)
  have hl1:SlAt (setH B1 A (outS s x.dst)) A2 2 x.args argR:=SlAt.setH hB1.dom ((hl.mono a0.up fun _ _ h=>h).mono hB1.up fun _ _ h=>h) (setAt_up hs0 hB1.up)
  have hq1:(setH B1 A (outS s x.dst)).m q=some ⟨⟨insC x A2 c2⟩,58⟩:=by
    rw [(setH_off (setAt_up hs0 hB1.up)).2 q (Nat.lt_of_lt_of_le hqn hB1.le) hnq]
    exact hB1.up _ _ hq
  have hq1n:=sH.dom _ _ hq1
  have hsl3:(outS s x.dst).length≤1000000000:=by rw [outS_length];exact hsl
  have hrl:=readsS_len x hxl
  have hlen:s.length=(outS s x.dst).length:=(outS_length _ _).symm
  rw [hlen]
  repeat (first|((with_reducible apply RS.callEx);(iterate 3 exact rfl);intro B2 hB2;refine ⟨_,reads_ex x A2 c2 hxl B2 (hl1.mono hB2.up fun _ _ h=>h),?_⟩;rintro v H2 π ⟨A3,c3,rfl,hrow,hold⟩ sH2 hle2)|((with_reducible apply RS.loadNB);(iterate 3 exact rfl);exact hq1;exact hq1n;exact Nat.le_of_ble_eq_true rfl;exact rfl)|((with_reducible apply RS.callEx);(iterate 3 exact rfl);intro B3 hB3;refine ⟨_,use_ex _ A c (readsS x) A3 c3 hsl3 hrl hfit B3 (setAt_up (setAt_up (setAt_up hs1 hB2.up) (hold.up hB2.dom)) hB3.up) (hrow.mono hB3.up fun _ _ h=>h),?_⟩;rintro v H4 π ⟨hs4,ho4⟩ sH4 hle4)|((with_reducible apply RS.nil);exact mixed;kernel_rfl))
  exact endsK_normal [] .nil (fun B' a=>⟨setAt_up hs4 a.up,((((((a0.oldH.off.same hB1.oldH.off).same (setH_off (setAt_up hs0 hB1.up))).same hB2.oldH.off).same hold.off).same hB3.oldH.off).same ho4).same a.oldH.off⟩)
end Go.Proofs.YtjhloakacicdiaaDoor
namespace Go.Proofs.YtjhloakacicdiaaDoor
open Go.AH
attribute [local irreducible] W RS
theorem stk_lt {h:Hp} {e:TypeId} {A:Option Addr} {cap:Nat} {vs:List Value} (s:StkRow h e A cap vs) (hv:vs≠[]):∃ r t,A=some ⟨r,0,none⟩∧h.m r=some ⟨⟨vs++t⟩,e⟩∧rwM≤r∧(cap=capOf 1∨(cap=vs.length+t.length∧cap < capMark)):=by
  cases s with
  | nil=>exact absurd rfl hv
  | row hm hr hc=>exact ⟨_,_,rfl,hm,hr,hc⟩
theorem pop_ex (wb:Nat) (A:Option Addr) (cap:Nat) (vs:List Value) (x:Int) (hl:vs.length≤1000000000) (h:Hp) (hw:h.m wb=some ⟨⟨[.slice A (vs.length+1:Nat) cap]⟩,34⟩) (hrw:rwM≤wb) (hs:StkRow h 3 A cap (vs++[.int .i64 x])) :
    EX Tryd.prog 90 [.pointer (some ⟨wb,0,none⟩)] h (fun v h'=>v=.int .i64 x∧h'.m wb=some ⟨⟨[.slice A vs.length cap]⟩,34⟩∧StkRow h' 3 A cap vs∧OffS (fun i=>i=wb) h h'):=by
  refine EX.intro (fn:=Tryd.f90) (c:=(Tryd.f90.body.getD .skip)) Tryd.func90 (by kernel_rfl) Tryd.ntmps90 (by kernel_rfl) fun π s0=>?_
  conv=>arg 2;whnf
  obtain ⟨r,t,rfl,hm,hr,hc⟩:=stk_lt hs (by simp)
  have hwn:=s0.dom _ _ hw
  have hmn:=s0.dom _ _ hm
  have hat:(vs++[Value.int .i64 x]++t)[0+vs.length * 1]?=some (.int .i64 x):=by simp
  have hle:vs.length≤(vs++[Value.int .i64 x]++t).length:=by simp
  have hcap:cap=capOf 1∨(vs.length≤cap∧cap < capMark):=by
    rcases hc with hc|⟨hc,hcm⟩
    · exact .inl hc
    · exact .inr ⟨by simp at hc;omega,hcm⟩
  repeat (first|((with_reducible apply RS.load1B);(iterate 3 exact rfl);exact hw;exact hwn;exact rfl)|((with_reducible apply RS.indexAddrS);(iterate 5 exact rfl);omega)|((with_reducible apply RS.load1B);(iterate 3 exact rfl);exact hm;exact hmn;exact hat)|((with_reducible apply RS.sliceStk);(iterate 4 exact rfl);exact hm;exact hmn;exact hr;exact hle;exact hcap)|((with_reducible apply RS.storeB);(iterate 3 exact rfl);exact hw;exact hwn;exact hrw;exact Nat.le_of_ble_eq_true rfl;iterate 3 exact rfl)|((with_reducible first|apply RS.nilCheck|apply RS.move|apply RS.assign|apply RS.lenSl);iterate 3 exact rfl)|((with_reducible apply RS.sub1);(iterate 4 exact rfl);omega)|((with_reducible apply RS.nil);exact mixed;kernel_rfl)|(with_reducible first|apply W.seq|apply W.ret|apply thenK_n)|((with_reducible apply W.reg);kernel_rfl))
  have hne:r≠wb:=by
    intro e
    subst e
    rw [hw] at hm
    simp at hm
  refine endsK_ret _ (.cons (.tmp rfl) .nil) fun B' a=>⟨rfl,a.up _ _ ?_,?_,?_⟩
  · show (if wb=wb then _ else _)=_
    rw [if_pos rfl];rfl
  · refine .row (t:=.int .i64 x::t) (a.up _ _ ?_) hr ?_
    · show (if r=wb then _ else h.m r)=_
      rw [if_neg hne,hm];simp
    · rcases hc with hc|⟨hc,hcm⟩
      · exact .inl hc
      · exact .inr ⟨by simp at hc ⊢;omega,hcm⟩
  · exact (OffS.set h wb _).same a.oldH.off
structure FAt (h:Hp) (fb:Nat) (regs:Int) (A:Option Addr) (c:Nat) (bl:List BlockS):Prop where
  hf:∃ fcs,h.m fb=some ⟨⟨fcs⟩,37⟩∧fcs[3]?=some (.int .i64 regs)∧fcs[5]?=some (.slice A bl.length c)
  sl:SlAt h A 9 bl (blockR h)
theorem FAt.up {h H:Hp} {fb:Nat} {regs:Int} {A:Option Addr} {c:Nat} {bl:List BlockS} (f:FAt h fb regs A c bl) (hu:∀ i b,h.m i=some b→H.m i=some b):FAt H fb regs A c bl:=by
  obtain ⟨fcs,h1,h2⟩:=f.hf
  exact ⟨⟨fcs,hu _ _ h1,h2⟩,f.sl.mono hu fun _ _ h=>blockR_mono hu h⟩
def tgtOK (bl:List BlockS):Prop:=∀ b∈bl,∀ k∈nextS b.term,0≤k∧k < bl.length
def lackS (n:Nat) (s:SetS):Nat:=((List.range n).filter fun i:Nat=>!hasS s (i:Int)).length
theorem lackS_put {n:Nat} {s:SetS} {k:Int} (h0:0≤k) (hk:k < n) (hs:hasS s k=false) (hl:k.toNat / 64 < s.length):lackS n (putS s k)+1=lackS n s:=by
  unfold lackS
  obtain ⟨m,rfl⟩:∃ m:Nat,k=m:=⟨k.toNat,by omega⟩
  have hm:m < n:=by omega
  clear h0 hk
  induction n with
  | zero=>omega
  | succ n ih =>
    rw [List.range_succ,List.filter_append,List.filter_append,List.length_append,List.length_append]
    have hput:∀ i:Nat,hasS (putS s (m:Int)) (i:Int)=(hasS s i || decide (m=i)):=by
      intro i
      rw [hasS_put]
      by_cases e:m=i
      · subst e;simp at hl;simp [hl]
      · have:(m:Int)≠(i:Int):=by omega
        simp [e,this]
    by_cases e:m=n
    · subst e
      have e1:(List.range m).filter (fun i:Nat=>!hasS (putS s (m:Int)) (i:Int))=(List.range m).filter (fun i:Nat=>!hasS s (i:Int)):=by
        apply List.filter_congr
        intro i hi
        have:i < m:=List.mem_range.1 hi
        rw [hput,decide_eq_false (by omega),Bool.or_false]
      rw [e1]
      simp [hput,hs]
    · have:=ih (by omega)
      have e2:hasS (putS s (m:Int)) (n:Int)=hasS s (n:Int):=by rw [hput,decide_eq_false e,Bool.or_false]
      simp only [List.filter_cons,List.filter_nil,e2]
      omega
end Go.Proofs.YtjhloakacicdiaaDoor
namespace Go.Proofs.YtjhloakacicdiaaDoor
open Go.AH
attribute [local irreducible] W RS
def smallsB:ByteArray:=⟨#[48,48,48,49,48,50,48,51,48,52,48,53,48,54,48,55,48,56,48,57,49,48,49,49,49,50,49,51,49,52,49,53,49,54,49,55,49,56,49,57,50,48,50,49,50,50,50,51,50,52,50,53,50,54,50,55,50,56,50,57,51,48,51,49,51,50,51,51,51,52,51,53,51,54,51,55,51,56,51,57,52,48,52,49,52,50,52,51,52,52,52,53,52,54,52,55,52,56,52,57,53,48,53,49,53,50,53,51,53,52,53,53,53,54,53,55,53,56,53,57,54,48,54,49,54,50,54,51,54,52,54,53,54,54,54,55,54,56,54,57,55,48,55,49,55,50,55,51,55,52,55,53,55,54,55,55,55,56,55,57,56,48,56,49,56,50,56,51,56,52,56,53,56,54,56,55,56,56,56,57,57,48,57,49,57,50,57,51,57,52,57,53,57,54,57,55,57,56,57,57]⟩
def smA (n:Nat):Int:=byteAt smallsB n
def eightS (d:List Int) (off i u:Nat):List Int :=
  (((((((d.set (off+(i - 1) * 1) (smA (u % 10000 % 100 * 2+1))).set (off+(i - 2) * 1) (smA (u % 10000 % 100 * 2))).set (off+(i - 3) * 1) (smA (u % 10000 / 100 * 2+1))).set (off+(i - 4) * 1) (smA (u % 10000 / 100 * 2))).set (off+(i - 5) * 1) (smA (u / 10000 % 100 * 2+1))).set (off+(i - 6) * 1) (smA (u / 10000 % 100 * 2))).set (off+(i - 7) * 1) (smA (u / 10000 / 100 * 2+1))).set (off+(i - 8) * 1) (smA (u / 10000 / 100 * 2))
def loopS:Nat→Nat→Nat→Nat→List Int→Nat × Nat × List Int
  | 0,_,i,u,d=>(i,u,d)
  | k+1,off,i,u,d=>if 8≤i then loopS k off (i - 8) (u / 100000000) (eightS d off i (u % 100000000 % 4294967296)) else (i,u,d)
def fourS (off:Nat) (x:Nat × Nat × List Int):Nat × Nat × List Int :=
  if 4≤x.1 then (x.1 - 4,x.2.1 / 10000,(((x.2.2.set (off+(x.1 - 1) * 1) (smA (x.2.1 % 10000 % 100 * 2+1))).set (off+(x.1 - 2) * 1) (smA (x.2.1 % 10000 % 100 * 2))).set (off+(x.1 - 3) * 1) (smA (x.2.1 % 10000 / 100 * 2+1))).set (off+(x.1 - 4) * 1) (smA (x.2.1 % 10000 / 100 * 2))) else x
def twoT (off:Nat) (x:Nat × Nat × List Int):Nat × Nat × List Int :=
  if 2≤x.1 then (x.1 - 2,x.2.1 / 100,(x.2.2.set (off+(x.1 - 1) * 1) (smA (x.2.1 % 100 * 2+1))).set (off+(x.1 - 2) * 1) (smA (x.2.1 % 100 * 2))) else x
def oneT (off:Nat) (x:Nat × Nat × List Int):List Int :=
  if 0 < x.1 then x.2.2.set (off+0 * 1) (IntKind.u8.wrap (IntKind.u32.wrap (48+(x.2.1:Int)))) else x.2.2
def fmtS (off N u:Nat) (d:List Int):List Int:=oneT off (twoT off (fourS off ((loopS N off N u d).1,(loopS N off N u d).2.1 % 4294967296,(loopS N off N u d).2.2)))
theorem setS_self (h:Hp) (i:Nat) (b:Blk):(h.set i b).m i=some b:=by show (if i=i then _ else _)=_;rw [if_pos rfl]
theorem eightS_length (d:List Int) (off i u:Nat):(eightS d off i u).length=d.length:=by simp [eightS]
theorem loopS_stop {k off i u:Nat} {d:List Int} (h:i < 8):loopS k off i u d=(i,u,d):=by
  cases k with
  | zero=>rfl
  | succ k=>rw [loopS,if_neg (by omega)]
theorem set_offA {h B:Hp} {a:Nat} {b:Blk} (o:OffS (fun i=>i=a) h B):OffS (fun i=>i=a) h (B.set a b) :=
  ⟨o.1,fun i hi hn=>by show (if i=a then _ else _)=_;rw [if_neg hn];exact o.2 i hi hn⟩
set_option maxRecDepth 100000 in
set_option maxHeartbeats 0 in
theorem fb10_ex (a off N cap u:Nat) (d:List Int) (e:TypeId) (hN:N≤1000) (hu:u≤18446744073709551615) (hd:off+N≤d.length) (h:Hp) (ha:h.m a=some ⟨⟨u8s d⟩,e⟩) (haw:rwM≤a) :
    EX Tryd.prog 103 [.slice (some ⟨a,off,none⟩) N cap,.int .u64 (u:Int)] h (fun v h'=>v=.tuple #[]∧h'.m a=some ⟨⟨u8s (fmtS off N u d)⟩,e⟩∧OffS (fun i=>i=a) h h'):=by
  refine EX.intro (fn:=Tryd.f103) (c:=(Tryd.f103.body.getD .skip)) Tryd.func103 (by kernel_rfl) Tryd.ntmps103 (by kernel_rfl) fun π s0=>?_
  conv=>arg 2;whnf
  repeat (first|((with_reducible first|apply RS.move|apply RS.assign|apply RS.lenSl);iterate 3 exact rfl)|((with_reducible apply RS.nil);exact mixed;kernel_rfl)|(with_reducible first|apply W.seq|apply W.block|apply thenK_n)|((with_reducible apply W.reg);kernel_rfl))
  refine W.loopN (X:=Nat × Nat × List Int) (fun x=>[(0,.slice (some ⟨a,off,none⟩) N cap),(1,.int .u64 (x.2.1:Int)),(4,.int .i64 (x.1:Int))])
    (fun x B=>x.1≤N∧x.2.1≤18446744073709551615∧x.2.2.length=d.length∧B.m a=some ⟨⟨u8s x.2.2⟩,e⟩∧OffS (fun i=>i=a) h B∧∃ k,x.1≤k∧loopS k off x.1 x.2.1 x.2.2=loopS N off N u d) (fun x=>x.1)
    (fun B' y=>⟨(N,u,d),?_,⟨Nat.le_refl _,hu,rfl,y.up _ _ ha,y.oldH.off,N,Nat.le_refl _,rfl⟩⟩) ?_
  · (repeat' (first|exact trivial|exact rfl|apply And.intro));done
  rintro x B π1 sB ⟨hi,hus,hdl,hA,hoff,k,hk,hls⟩
  generalize hxi:x.1=i at *
  generalize x.2.1=us at *
  generalize x.2.2=dd at *
  have hAn:=sB.dom _ _ hA
  by_cases h8:8≤i
  · repeat (first|((with_reducible apply (RS.quoN (b:=100000000)));(iterate 4 exact rfl);omega;(first|exact wrap32 (by omega)|exact wrap64 (by omega)))|((with_reducible apply (RS.quoN (b:=10000)));(iterate 4 exact rfl);omega;(first|exact wrap32 (by omega)|exact wrap64 (by omega)))|((with_reducible apply (RS.quoN (b:=100)));(iterate 4 exact rfl);omega;(first|exact wrap32 (by omega)|exact wrap64 (by omega)))|((with_reducible apply (RS.remN (b:=100000000)));(iterate 4 exact rfl);omega)|((with_reducible apply (RS.remN (b:=10000)));(iterate 4 exact rfl);omega)|((with_reducible apply (RS.remN (b:=100)));(iterate 4 exact rfl);omega)|((with_reducible apply (RS.mulN (b:=2)));(iterate 4 exact rfl);(first|exact wrap32 (by omega)|exact wrap64 (by omega)))|((with_reducible apply (RS.addN (b:=1)));(iterate 4 exact rfl);(first|exact wrap32 (by omega)|exact wrap64 (by omega)))|((with_reducible apply (RS.subNat (b:=1)));(iterate 4 exact rfl);omega)|((with_reducible apply (RS.subNat (b:=2)));(iterate 4 exact rfl);omega)|((with_reducible apply (RS.subNat (b:=3)));(iterate 4 exact rfl);omega)|((with_reducible apply (RS.subNat (b:=4)));(iterate 4 exact rfl);omega)|((with_reducible apply (RS.subNat (b:=5)));(iterate 4 exact rfl);omega)|((with_reducible apply (RS.subNat (b:=6)));(iterate 4 exact rfl);omega)|((with_reducible apply (RS.subNat (b:=7)));(iterate 4 exact rfl);omega)|((with_reducible apply (RS.subNat (b:=8)));(iterate 4 exact rfl);omega)|((with_reducible apply RS.convTo32);iterate 3 exact rfl)|((with_reducible apply (RS.indexAt (s:=smallsB)));(iterate 4 exact rfl);(show _ < 200;omega))|((with_reducible apply RS.indexAddrS);(iterate 5 exact rfl);omega)|((with_reducible apply RS.storeB);(iterate 3 exact rfl);(first|exact hA|exact setS_self _ _ _);exact hAn;exact haw;(simp only [u8s,List.length_map,List.length_set];omega);(iterate 2 exact rfl);exact setL_u8s _ _ _)|((with_reducible first|apply RS.move|apply RS.assign);iterate 3 exact rfl)|((with_reducible apply RS.cmpT);(iterate 4 exact rfl);(simp only [cmpP];omega))|((with_reducible apply RS.nil);exact mixed;kernel_rfl)|(with_reducible first|apply W.seq|apply W.block|apply W.skip|apply thenK_n|apply blockK_n)|((with_reducible apply W.reg);kernel_rfl)|((with_reducible apply W.condT);kernel_rfl;exact rfl))
    refine roundN_n rfl fun B' y=>⟨(i - 8,us / 100000000,eightS dd off i (us % 100000000 % 4294967296)),?_,⟨by show i - 8≤N;omega,by show us / 100000000≤_;omega,(eightS_length _ _ _ _).trans hdl,y.up _ _ (setS_self _ _ _),?_,?_⟩,by show i - 8 < x.1;omega⟩
    · (repeat' (first|exact trivial|exact rfl|apply And.intro));done
    · exact (set_offA (set_offA (set_offA (set_offA (set_offA (set_offA (set_offA (set_offA hoff)))))))).same y.oldH.off
    · obtain ⟨k',rfl⟩:∃ k',k=k'+1:=⟨k - 1,by omega⟩
      rw [loopS,if_pos h8] at hls
      exact ⟨k',by show i - 8≤k';omega,hls⟩
  · rw [loopS_stop (by omega)] at hls
    by_cases h4:4≤i
    · by_cases h2:2≤i - 4
      · by_cases h1:0 < i - 4 - 2
        · repeat (first|((with_reducible apply (RS.quoN (b:=10000)));(iterate 4 exact rfl);omega;(first|exact wrap32 (by omega)|exact wrap64 (by omega)))|((with_reducible apply (RS.quoN (b:=100)));(iterate 4 exact rfl);omega;(first|exact wrap32 (by omega)|exact wrap64 (by omega)))|((with_reducible apply (RS.remN (b:=10000)));(iterate 4 exact rfl);omega)|((with_reducible apply (RS.remN (b:=100)));(iterate 4 exact rfl);omega)|((with_reducible apply (RS.mulN (b:=2)));(iterate 4 exact rfl);(first|exact wrap32 (by omega)|exact wrap64 (by omega)))|((with_reducible apply (RS.addN (b:=1)));(iterate 4 exact rfl);(first|exact wrap32 (by omega)|exact wrap64 (by omega)))|((with_reducible apply (RS.subNat (b:=1)));(iterate 4 exact rfl);omega)|((with_reducible apply (RS.subNat (b:=2)));(iterate 4 exact rfl);omega)|((with_reducible apply (RS.subNat (b:=3)));(iterate 4 exact rfl);omega)|((with_reducible apply (RS.subNat (b:=4)));(iterate 4 exact rfl);omega)|((with_reducible apply RS.convTo32);iterate 3 exact rfl)|((with_reducible apply (RS.indexAt (s:=smallsB)));(iterate 4 exact rfl);(show _ < 200;omega))|((with_reducible apply (RS.indexAddrS (n:=0)));(iterate 5 exact rfl);omega)|((with_reducible apply RS.indexAddrS);(iterate 5 exact rfl);omega)|((with_reducible apply RS.storeB);(iterate 3 exact rfl);(first|exact hA|exact setS_self _ _ _);exact hAn;exact haw;(simp only [u8s,List.length_map,List.length_set];omega);(iterate 2 exact rfl);exact setL_u8s _ _ _)|((with_reducible first|apply RS.move|apply RS.assign|apply RS.convI);iterate 3 exact rfl)|((with_reducible apply RS.cmpT);(iterate 4 exact rfl);(simp only [cmpP];omega))|((with_reducible apply RS.cmpF);(iterate 4 exact rfl);(simp only [cmpN];omega))|((with_reducible apply RS.bin);iterate 5 exact rfl)|((with_reducible apply RS.nil);exact mixed;kernel_rfl)|(with_reducible first|apply W.seq|apply W.exit|apply thenK_n|apply thenK_e|apply roundN_e)|((with_reducible apply W.reg);kernel_rfl)|((with_reducible apply W.condT);kernel_rfl;exact rfl)|((with_reducible apply W.condF);kernel_rfl;exact rfl)|((with_reducible apply blockK_hit);exact rfl))
          refine endsK_normal [] .nil fun B' y=>⟨rfl,y.up _ _ (Eq.trans (setS_self _ _ _) ?_),(set_offA (set_offA (set_offA (set_offA (set_offA (set_offA (set_offA (hoff)))))))).same y.oldH.off⟩
          unfold fmtS
          rw [← hls]
          simp only [fourS,twoT,oneT,if_pos h4,if_pos h2,if_pos h1]<;>rfl
        · repeat (first|((with_reducible apply (RS.quoN (b:=10000)));(iterate 4 exact rfl);omega;(first|exact wrap32 (by omega)|exact wrap64 (by omega)))|((with_reducible apply (RS.quoN (b:=100)));(iterate 4 exact rfl);omega;(first|exact wrap32 (by omega)|exact wrap64 (by omega)))|((with_reducible apply (RS.remN (b:=10000)));(iterate 4 exact rfl);omega)|((with_reducible apply (RS.remN (b:=100)));(iterate 4 exact rfl);omega)|((with_reducible apply (RS.mulN (b:=2)));(iterate 4 exact rfl);(first|exact wrap32 (by omega)|exact wrap64 (by omega)))|((with_reducible apply (RS.addN (b:=1)));(iterate 4 exact rfl);(first|exact wrap32 (by omega)|exact wrap64 (by omega)))|((with_reducible apply (RS.subNat (b:=1)));(iterate 4 exact rfl);omega)|((with_reducible apply (RS.subNat (b:=2)));(iterate 4 exact rfl);omega)|((with_reducible apply (RS.subNat (b:=3)));(iterate 4 exact rfl);omega)|((with_reducible apply (RS.subNat (b:=4)));(iterate 4 exact rfl);omega)|((with_reducible apply RS.convTo32);iterate 3 exact rfl)|((with_reducible apply (RS.indexAt (s:=smallsB)));(iterate 4 exact rfl);(show _ < 200;omega))|((with_reducible apply RS.indexAddrS);(iterate 5 exact rfl);omega)|((with_reducible apply RS.storeB);(iterate 3 exact rfl);(first|exact hA|exact setS_self _ _ _);exact hAn;exact haw;(simp only [u8s,List.length_map,List.length_set];omega);(iterate 2 exact rfl);exact setL_u8s _ _ _)|((with_reducible first|apply RS.move|apply RS.assign);iterate 3 exact rfl)|((with_reducible apply RS.cmpT);(iterate 4 exact rfl);(simp only [cmpP];omega))|((with_reducible apply RS.cmpF);(iterate 4 exact rfl);(simp only [cmpN];omega))|((with_reducible apply RS.nil);exact mixed;kernel_rfl)|(with_reducible first|apply W.seq|apply W.exit|apply W.skip|apply thenK_n|apply thenK_e|apply roundN_e)|((with_reducible apply W.reg);kernel_rfl)|((with_reducible apply W.condT);kernel_rfl;exact rfl)|((with_reducible apply W.condF);kernel_rfl;exact rfl)|((with_reducible apply blockK_hit);exact rfl))
          refine endsK_normal [] .nil fun B' y=>⟨rfl,y.up _ _ (Eq.trans (setS_self _ _ _) ?_),(set_offA (set_offA (set_offA (set_offA (set_offA (set_offA (hoff))))))).same y.oldH.off⟩
          unfold fmtS
          rw [← hls]
          simp only [fourS,twoT,oneT,if_pos h4,if_pos h2,if_neg h1]<;>rfl
      · by_cases h1:0 < i - 4
        · repeat (first|((with_reducible apply (RS.quoN (b:=10000)));(iterate 4 exact rfl);omega;(first|exact wrap32 (by omega)|exact wrap64 (by omega)))|((with_reducible apply (RS.quoN (b:=100)));(iterate 4 exact rfl);omega;(first|exact wrap32 (by omega)|exact wrap64 (by omega)))|((with_reducible apply (RS.remN (b:=10000)));(iterate 4 exact rfl);omega)|((with_reducible apply (RS.remN (b:=100)));(iterate 4 exact rfl);omega)|((with_reducible apply (RS.mulN (b:=2)));(iterate 4 exact rfl);(first|exact wrap32 (by omega)|exact wrap64 (by omega)))|((with_reducible apply (RS.addN (b:=1)));(iterate 4 exact rfl);(first|exact wrap32 (by omega)|exact wrap64 (by omega)))|((with_reducible apply (RS.subNat (b:=1)));(iterate 4 exact rfl);omega)|((with_reducible apply (RS.subNat (b:=2)));(iterate 4 exact rfl);omega)|((with_reducible apply (RS.subNat (b:=3)));(iterate 4 exact rfl);omega)|((with_reducible apply (RS.subNat (b:=4)));(iterate 4 exact rfl);omega)|((with_reducible apply RS.convTo32);iterate 3 exact rfl)|((with_reducible apply (RS.indexAt (s:=smallsB)));(iterate 4 exact rfl);(show _ < 200;omega))|((with_reducible apply (RS.indexAddrS (n:=0)));(iterate 5 exact rfl);omega)|((with_reducible apply RS.indexAddrS);(iterate 5 exact rfl);omega)|((with_reducible apply RS.storeB);(iterate 3 exact rfl);(first|exact hA|exact setS_self _ _ _);exact hAn;exact haw;(simp only [u8s,List.length_map,List.length_set];omega);(iterate 2 exact rfl);exact setL_u8s _ _ _)|((with_reducible first|apply RS.move|apply RS.assign|apply RS.convI);iterate 3 exact rfl)|((with_reducible apply RS.cmpT);(iterate 4 exact rfl);(simp only [cmpP];omega))|((with_reducible apply RS.cmpF);(iterate 4 exact rfl);(simp only [cmpN];omega))|((with_reducible apply RS.bin);iterate 5 exact rfl)|((with_reducible apply RS.nil);exact mixed;kernel_rfl)|(with_reducible first|apply W.seq|apply W.exit|apply W.skip|apply thenK_n|apply thenK_e|apply roundN_e)|((with_reducible apply W.reg);kernel_rfl)|((with_reducible apply W.condT);kernel_rfl;exact rfl)|((with_reducible apply W.condF);kernel_rfl;exact rfl)|((with_reducible apply blockK_hit);exact rfl))
          refine endsK_normal [] .nil fun B' y=>⟨rfl,y.up _ _ (Eq.trans (setS_self _ _ _) ?_),(set_offA (set_offA (set_offA (set_offA (set_offA (hoff)))))).same y.oldH.off⟩
          unfold fmtS
          rw [← hls]
          simp only [fourS,twoT,oneT,if_pos h4,if_neg h2,if_pos h1]<;>rfl
        · repeat (first|((with_reducible apply (RS.quoN (b:=10000)));(iterate 4 exact rfl);omega;(first|exact wrap32 (by omega)|exact wrap64 (by omega)))|((with_reducible apply (RS.quoN (b:=100)));(iterate 4 exact rfl);omega;(first|exact wrap32 (by omega)|exact wrap64 (by omega)))|((with_reducible apply (RS.remN (b:=10000)));(iterate 4 exact rfl);omega)|((with_reducible apply (RS.remN (b:=100)));(iterate 4 exact rfl);omega)|((with_reducible apply (RS.mulN (b:=2)));(iterate 4 exact rfl);(first|exact wrap32 (by omega)|exact wrap64 (by omega)))|((with_reducible apply (RS.addN (b:=1)));(iterate 4 exact rfl);(first|exact wrap32 (by omega)|exact wrap64 (by omega)))|((with_reducible apply (RS.subNat (b:=1)));(iterate 4 exact rfl);omega)|((with_reducible apply (RS.subNat (b:=2)));(iterate 4 exact rfl);omega)|((with_reducible apply (RS.subNat (b:=3)));(iterate 4 exact rfl);omega)|((with_reducible apply (RS.subNat (b:=4)));(iterate 4 exact rfl);omega)|((with_reducible apply RS.convTo32);iterate 3 exact rfl)|((with_reducible apply (RS.indexAt (s:=smallsB)));(iterate 4 exact rfl);(show _ < 200;omega))|((with_reducible apply RS.indexAddrS);(iterate 5 exact rfl);omega)|((with_reducible apply RS.storeB);(iterate 3 exact rfl);(first|exact hA|exact setS_self _ _ _);exact hAn;exact haw;(simp only [u8s,List.length_map,List.length_set];omega);(iterate 2 exact rfl);exact setL_u8s _ _ _)|((with_reducible first|apply RS.move|apply RS.assign);iterate 3 exact rfl)|((with_reducible apply RS.cmpT);(iterate 4 exact rfl);(simp only [cmpP];omega))|((with_reducible apply RS.cmpF);(iterate 4 exact rfl);(simp only [cmpN];omega))|((with_reducible apply RS.nil);exact mixed;kernel_rfl)|(with_reducible first|apply W.seq|apply W.exit|apply W.skip|apply thenK_n|apply thenK_e|apply roundN_e)|((with_reducible apply W.reg);kernel_rfl)|((with_reducible apply W.condT);kernel_rfl;exact rfl)|((with_reducible apply W.condF);kernel_rfl;exact rfl)|((with_reducible apply blockK_hit);exact rfl))
          refine endsK_normal [] .nil fun B' y=>⟨rfl,y.up _ _ (Eq.trans (setS_self _ _ _) ?_),(set_offA (set_offA (set_offA (set_offA (hoff))))).same y.oldH.off⟩
          unfold fmtS
          rw [← hls]
          simp only [fourS,twoT,oneT,if_pos h4,if_neg h2,if_neg h1]<;>rfl
    · by_cases h2:2≤i
      · by_cases h1:0 < i - 2
        · repeat (first|((with_reducible apply (RS.quoN (b:=100)));(iterate 4 exact rfl);omega;(first|exact wrap32 (by omega)|exact wrap64 (by omega)))|((with_reducible apply (RS.remN (b:=100)));(iterate 4 exact rfl);omega)|((with_reducible apply (RS.mulN (b:=2)));(iterate 4 exact rfl);(first|exact wrap32 (by omega)|exact wrap64 (by omega)))|((with_reducible apply (RS.addN (b:=1)));(iterate 4 exact rfl);(first|exact wrap32 (by omega)|exact wrap64 (by omega)))|((with_reducible apply (RS.subNat (b:=1)));(iterate 4 exact rfl);omega)|((with_reducible apply (RS.subNat (b:=2)));(iterate 4 exact rfl);omega)|((with_reducible apply RS.convTo32);iterate 3 exact rfl)|((with_reducible apply (RS.indexAt (s:=smallsB)));(iterate 4 exact rfl);(show _ < 200;omega))|((with_reducible apply (RS.indexAddrS (n:=0)));(iterate 5 exact rfl);omega)|((with_reducible apply RS.indexAddrS);(iterate 5 exact rfl);omega)|((with_reducible apply RS.storeB);(iterate 3 exact rfl);(first|exact hA|exact setS_self _ _ _);exact hAn;exact haw;(simp only [u8s,List.length_map,List.length_set];omega);(iterate 2 exact rfl);exact setL_u8s _ _ _)|((with_reducible first|apply RS.move|apply RS.assign|apply RS.convI);iterate 3 exact rfl)|((with_reducible apply RS.cmpT);(iterate 4 exact rfl);(simp only [cmpP];omega))|((with_reducible apply RS.cmpF);(iterate 4 exact rfl);(simp only [cmpN];omega))|((with_reducible apply RS.bin);iterate 5 exact rfl)|((with_reducible apply RS.nil);exact mixed;kernel_rfl)|(with_reducible first|apply W.seq|apply W.exit|apply W.skip|apply thenK_n|apply thenK_e|apply roundN_e)|((with_reducible apply W.reg);kernel_rfl)|((with_reducible apply W.condT);kernel_rfl;exact rfl)|((with_reducible apply W.condF);kernel_rfl;exact rfl)|((with_reducible apply blockK_hit);exact rfl))
          refine endsK_normal [] .nil fun B' y=>⟨rfl,y.up _ _ (Eq.trans (setS_self _ _ _) ?_),(set_offA (set_offA (set_offA (hoff)))).same y.oldH.off⟩
          unfold fmtS
          rw [← hls]
          simp only [fourS,twoT,oneT,if_neg h4,if_pos h2,if_pos h1]<;>rfl
        · repeat (first|((with_reducible apply (RS.quoN (b:=100)));(iterate 4 exact rfl);omega;(first|exact wrap32 (by omega)|exact wrap64 (by omega)))|((with_reducible apply (RS.remN (b:=100)));(iterate 4 exact rfl);omega)|((with_reducible apply (RS.mulN (b:=2)));(iterate 4 exact rfl);(first|exact wrap32 (by omega)|exact wrap64 (by omega)))|((with_reducible apply (RS.addN (b:=1)));(iterate 4 exact rfl);(first|exact wrap32 (by omega)|exact wrap64 (by omega)))|((with_reducible apply (RS.subNat (b:=1)));(iterate 4 exact rfl);omega)|((with_reducible apply (RS.subNat (b:=2)));(iterate 4 exact rfl);omega)|((with_reducible apply RS.convTo32);iterate 3 exact rfl)|((with_reducible apply (RS.indexAt (s:=smallsB)));(iterate 4 exact rfl);(show _ < 200;omega))|((with_reducible apply RS.indexAddrS);(iterate 5 exact rfl);omega)|((with_reducible apply RS.storeB);(iterate 3 exact rfl);(first|exact hA|exact setS_self _ _ _);exact hAn;exact haw;(simp only [u8s,List.length_map,List.length_set];omega);(iterate 2 exact rfl);exact setL_u8s _ _ _)|((with_reducible first|apply RS.move|apply RS.assign);iterate 3 exact rfl)|((with_reducible apply RS.cmpT);(iterate 4 exact rfl);(simp only [cmpP];omega))|((with_reducible apply RS.cmpF);(iterate 4 exact rfl);(simp only [cmpN];omega))|((with_reducible apply RS.nil);exact mixed;kernel_rfl)|(with_reducible first|apply W.seq|apply W.exit|apply W.skip|apply thenK_n|apply thenK_e|apply roundN_e)|((with_reducible apply W.reg);kernel_rfl)|((with_reducible apply W.condT);kernel_rfl;exact rfl)|((with_reducible apply W.condF);kernel_rfl;exact rfl)|((with_reducible apply blockK_hit);exact rfl))
          refine endsK_normal [] .nil fun B' y=>⟨rfl,y.up _ _ (Eq.trans (setS_self _ _ _) ?_),(set_offA (set_offA (hoff))).same y.oldH.off⟩
          unfold fmtS
          rw [← hls]
          simp only [fourS,twoT,oneT,if_neg h4,if_pos h2,if_neg h1]<;>rfl
      · by_cases h1:0 < i
        · repeat (first|((with_reducible apply RS.convTo32);iterate 3 exact rfl)|((with_reducible apply (RS.indexAddrS (n:=0)));(iterate 5 exact rfl);omega)|((with_reducible apply RS.storeB);(iterate 3 exact rfl);(first|exact hA|exact setS_self _ _ _);exact hAn;exact haw;(simp only [u8s,List.length_map,List.length_set];omega);(iterate 2 exact rfl);exact setL_u8s _ _ _)|((with_reducible first|apply RS.move|apply RS.assign|apply RS.convI);iterate 3 exact rfl)|((with_reducible apply RS.cmpT);(iterate 4 exact rfl);(simp only [cmpP];omega))|((with_reducible apply RS.cmpF);(iterate 4 exact rfl);(simp only [cmpN];omega))|((with_reducible apply RS.bin);iterate 5 exact rfl)|((with_reducible apply RS.nil);exact mixed;kernel_rfl)|(with_reducible first|apply W.seq|apply W.exit|apply W.skip|apply thenK_n|apply thenK_e|apply roundN_e)|((with_reducible apply W.reg);kernel_rfl)|((with_reducible apply W.condT);kernel_rfl;exact rfl)|((with_reducible apply W.condF);kernel_rfl;exact rfl)|((with_reducible apply blockK_hit);exact rfl))
          refine endsK_normal [] .nil fun B' y=>⟨rfl,y.up _ _ (Eq.trans (setS_self _ _ _) ?_),(set_offA (hoff)).same y.oldH.off⟩
          unfold fmtS
          rw [← hls]
          simp only [fourS,twoT,oneT,if_neg h4,if_neg h2,if_pos h1]<;>rfl
        · repeat (first|((with_reducible apply RS.convTo32);iterate 3 exact rfl)|((with_reducible first|apply RS.move|apply RS.assign);iterate 3 exact rfl)|((with_reducible apply RS.cmpF);(iterate 4 exact rfl);(simp only [cmpN];omega))|((with_reducible apply RS.nil);exact mixed;kernel_rfl)|(with_reducible first|apply W.seq|apply W.exit|apply W.skip|apply thenK_n|apply thenK_e|apply roundN_e)|((with_reducible apply W.reg);kernel_rfl)|((with_reducible apply W.condF);kernel_rfl;exact rfl)|((with_reducible apply blockK_hit);exact rfl))
          refine endsK_normal [] .nil fun B' y=>⟨rfl,y.up _ _ (Eq.trans hA ?_),(hoff).same y.oldH.off⟩
          unfold fmtS
          rw [← hls]
          simp only [fourS,twoT,oneT,if_neg h4,if_neg h2,if_neg h1]<;>rfl
end Go.Proofs.YtjhloakacicdiaaDoor
namespace Go.Proofs
open Go.Shelf
def Tryd.lays169_ren:Go.Shelf.Ren:=⟨fun|169=>69|n=>n,fun|70=>118|9=>9|0=>0|72=>120|37=>28|127=>150|3=>3|5=>5|n=>n,fun|n=>n⟩
theorem Tryd.lays169:Go.Proofs.Lays.n169 Tryd.prog Tryd.lays169_ren:={
  mixed:=by kernel_rfl
  f169:=Tryd.func69.trans (congrArg some (by kernel_rfl))
  t0:=Tryd.underlying0
  a0:=Tryd.isAgg0
  z0:=Tryd.sizeOf0
  v0:=Tryd.zeroValue0
  t3:=Tryd.underlying3
  a3:=Tryd.isAgg3
  z3:=Tryd.sizeOf3
  v3:=Tryd.zeroValue3
  t9:=Tryd.underlying9
  a9:=Tryd.isAgg9
  z9:=Tryd.sizeOf9
  v9:=Tryd.zeroValue9
  t37:=Tryd.underlying28
  a37:=Tryd.isAgg28
  z37:=Tryd.sizeOf28
  v37:=Tryd.zeroValue28
  t70:=Tryd.underlying118
  a70:=Tryd.isAgg118
  z70:=Tryd.sizeOf118
  v70:=Tryd.zeroValue118
  t72:=Tryd.underlying120
  a72:=Tryd.isAgg120
  z72:=Tryd.sizeOf120
  v72:=Tryd.zeroValue120
  t127:=Tryd.underlying150
  a127:=Tryd.isAgg150
  z127:=Tryd.sizeOf150
  v127:=Tryd.zeroValue150 }
theorem Tryd.Builder_Extra_169:Builder.Extra Tryd.prog Tryd.lays169_ren:={
  sizeBuilder:=by kernel_rfl
  liesBuilder:=by kernel_rfl
  t5:=Tryd.underlying5
  a5:=Tryd.isAgg5
  z5:=Tryd.sizeOf5
  v5:=Tryd.zeroValue5
  infoByte:=by kernel_rfl
  cellsByte:=by kernel_rfl
  sizeByte:=by kernel_rfl
  neB5:=by decide }
open Go.RowKit in
theorem Tryd.Builder_String_any (B b:Nat) (l:List UInt8) (w:World) (h:Lib.IsBuilder 120 5 B b (Lib.byteCells l) w) (hBw:B≤w.heap.size) :
    Calls Tryd.prog 69 #[.pointer (some ⟨b,0,none⟩)] w fun e w'=>e=.returned (.string ⟨l.toArray⟩)∧Below B w w':=Any.Builder_String_any Tryd.lays169 Tryd.Builder_Extra_169 B b l w h hBw
def Tryd.lays241_ren:Go.Shelf.Ren:=⟨fun|241=>89|277=>106|n=>n,fun|70=>118|3=>3|0=>0|72=>120|37=>28|5=>5|n=>n,fun|n=>n⟩
open Go.RowKit in
def Tryd.lays165_ren:Go.Shelf.Ren:=⟨fun|165=>67|240=>88|241=>89|276=>105|277=>106|n=>n,fun|70=>118|3=>3|0=>0|4=>4|9=>9|20=>20|72=>120|37=>28|164=>169|5=>5|n=>n,fun|n=>n⟩
theorem Tryd.lays165:Go.Proofs.Lays.n165 Tryd.prog Tryd.lays165_ren:={
  mixed:=by kernel_rfl
  f165:=Tryd.func67.trans (congrArg some (by kernel_rfl))
  f240:=Tryd.func88.trans (congrArg some (by kernel_rfl))
  f241:=Tryd.func89.trans (congrArg some (by kernel_rfl))
  f276:=Tryd.func105.trans (congrArg some (by kernel_rfl))
  f277:=Tryd.func106.trans (congrArg some (by kernel_rfl))
  t0:=Tryd.underlying0
  a0:=Tryd.isAgg0
  z0:=Tryd.sizeOf0
  v0:=Tryd.zeroValue0
  t3:=Tryd.underlying3
  a3:=Tryd.isAgg3
  z3:=Tryd.sizeOf3
  v3:=Tryd.zeroValue3
  t4:=Tryd.underlying4
  a4:=Tryd.isAgg4
  z4:=Tryd.sizeOf4
  v4:=Tryd.zeroValue4
  t9:=Tryd.underlying9
  a9:=Tryd.isAgg9
  z9:=Tryd.sizeOf9
  v9:=Tryd.zeroValue9
  t20:=Tryd.underlying20
  a20:=Tryd.isAgg20
  z20:=Tryd.sizeOf20
  v20:=Tryd.zeroValue20
  t37:=Tryd.underlying28
  a37:=Tryd.isAgg28
  z37:=Tryd.sizeOf28
  v37:=Tryd.zeroValue28
  t70:=Tryd.underlying118
  a70:=Tryd.isAgg118
  z70:=Tryd.sizeOf118
  v70:=Tryd.zeroValue118
  t72:=Tryd.underlying120
  a72:=Tryd.isAgg120
  z72:=Tryd.sizeOf120
  v72:=Tryd.zeroValue120
  t164:=Tryd.underlying169
  a164:=Tryd.isAgg169
  z164:=Tryd.sizeOf169
  v164:=Tryd.zeroValue169 }
theorem Tryd.Builder_Extra_165:Builder.Extra Tryd.prog Tryd.lays165_ren:={
  sizeBuilder:=by kernel_rfl
  liesBuilder:=by kernel_rfl
  t5:=Tryd.underlying5
  a5:=Tryd.isAgg5
  z5:=Tryd.sizeOf5
  v5:=Tryd.zeroValue5
  infoByte:=by kernel_rfl
  cellsByte:=by kernel_rfl
  sizeByte:=by kernel_rfl
  neB5:=by decide }
open Go.RowKit in
def Tryd.lays156_ren:Go.Shelf.Ren:=⟨fun|156=>42|165=>67|166=>68|169=>69|240=>88|241=>89|276=>105|277=>106|n=>n,fun|31=>80|9=>9|3=>3|4=>4|0=>0|20=>20|72=>120|76=>123|70=>118|37=>28|75=>122|127=>150|164=>169|5=>5|80=>39|n=>n,fun|n=>n⟩
theorem Tryd.lays156:Go.Proofs.Lays.n156 Tryd.prog Tryd.lays156_ren:={
  mixed:=by kernel_rfl
  f156:=Tryd.func42.trans (congrArg some (by kernel_rfl))
  f165:=Tryd.func67.trans (congrArg some (by kernel_rfl))
  f166:=Tryd.func68.trans (congrArg some (by kernel_rfl))
  f169:=Tryd.func69.trans (congrArg some (by kernel_rfl))
  f240:=Tryd.func88.trans (congrArg some (by kernel_rfl))
  f241:=Tryd.func89.trans (congrArg some (by kernel_rfl))
  f276:=Tryd.func105.trans (congrArg some (by kernel_rfl))
  f277:=Tryd.func106.trans (congrArg some (by kernel_rfl))
  t0:=Tryd.underlying0
  a0:=Tryd.isAgg0
  z0:=Tryd.sizeOf0
  v0:=Tryd.zeroValue0
  t3:=Tryd.underlying3
  a3:=Tryd.isAgg3
  z3:=Tryd.sizeOf3
  v3:=Tryd.zeroValue3
  t4:=Tryd.underlying4
  a4:=Tryd.isAgg4
  z4:=Tryd.sizeOf4
  v4:=Tryd.zeroValue4
  t9:=Tryd.underlying9
  a9:=Tryd.isAgg9
  z9:=Tryd.sizeOf9
  v9:=Tryd.zeroValue9
  t20:=Tryd.underlying20
  a20:=Tryd.isAgg20
  z20:=Tryd.sizeOf20
  v20:=Tryd.zeroValue20
  t31:=Tryd.underlying80
  a31:=Tryd.isAgg80
  z31:=Tryd.sizeOf80
  v31:=Tryd.zeroValue80
  t37:=Tryd.underlying28
  a37:=Tryd.isAgg28
  z37:=Tryd.sizeOf28
  v37:=Tryd.zeroValue28
  t70:=Tryd.underlying118
  a70:=Tryd.isAgg118
  z70:=Tryd.sizeOf118
  v70:=Tryd.zeroValue118
  t72:=Tryd.underlying120
  a72:=Tryd.isAgg120
  z72:=Tryd.sizeOf120
  v72:=Tryd.zeroValue120
  t75:=Tryd.underlying122
  a75:=Tryd.isAgg122
  z75:=Tryd.sizeOf122
  v75:=Tryd.zeroValue122
  t76:=Tryd.underlying123
  a76:=Tryd.isAgg123
  z76:=Tryd.sizeOf123
  v76:=Tryd.zeroValue123
  t127:=Tryd.underlying150
  a127:=Tryd.isAgg150
  z127:=Tryd.sizeOf150
  v127:=Tryd.zeroValue150
  t164:=Tryd.underlying169
  a164:=Tryd.isAgg169
  z164:=Tryd.sizeOf169
  v164:=Tryd.zeroValue169 }
theorem Tryd.Builder_Extra_156:Builder.Extra Tryd.prog Tryd.lays156_ren:={
  sizeBuilder:=by kernel_rfl
  liesBuilder:=by kernel_rfl
  t5:=Tryd.underlying5
  a5:=Tryd.isAgg5
  z5:=Tryd.sizeOf5
  v5:=Tryd.zeroValue5
  infoByte:=by kernel_rfl
  cellsByte:=by kernel_rfl
  sizeByte:=by kernel_rfl
  neB5:=by decide }
open Go.RowKit in
theorem Tryd.strings_Join_none (a:Option Addr) (c:Nat) (sep:ByteArray) (w:World) :
    Calls Tryd.prog 42 #[.slice a 0 c,.string sep] w fun e w'=>e=.returned (.string ⟨#[]⟩)∧w'=w:=Any.strings_Join_none Tryd.lays156 Tryd.Builder_Extra_156 a c sep w
open Go.RowKit in
theorem Tryd.strings_Join (bk o c:Nat) (xs:List ByteArray) (sep:ByteArray) (w:World) (hcells:∀ (j:Nat) x,xs[j]?=some x→w.cell? ⟨bk,o+j,none⟩=some (.string x)) (hbk:bk < w.heap.size) (hN:xs.length≤140737488355328) (hcap:xs.length≤c) (hlen:(Lib.join (xs.map (·.data.toList)) sep.data.toList).length≤140737488355328) :
    Calls Tryd.prog 42 #[.slice (some ⟨bk,o,none⟩) xs.length c,.string sep] w fun e w'=>e=.returned (.string ⟨(Lib.join (xs.map (·.data.toList)) sep.data.toList).toArray⟩)∧Below w.heap.size w w':=Any.strings_Join Tryd.lays156 Tryd.Builder_Extra_156 bk o c xs sep w hcells hbk hN hcap hlen
open Go.RowKit in
theorem Tryd.Builder_Grow_fresh_cap (B b n:Nat) (w:World) (hB:B≤b) (hbk:w.heap[b]?=some (.cells #[.pointer none,.slice none 0 0] 120 (0,0))) (hBw:B≤w.heap.size) (hn:n≤281474976710656) :
    Calls Tryd.prog 67 #[.pointer (some ⟨b,0,none⟩),.int .i64 n] w fun e w'=>e=.returned (.tuple #[])∧(Lib.BuilderAt 120 5 B b (.pointer (some ⟨b,0,none⟩)) [] w'∧Below B w w')∧∃ p cap,w'.cell? ⟨b,1,none⟩=some (.slice p 0 cap)∧n≤cap:=Any.Builder_Grow_fresh_cap Tryd.lays165 Tryd.Builder_Extra_165 B b n w hB hbk hBw hn
def Tryd.lays129_ren:Go.Shelf.Ren:=⟨fun|129=>113|n=>n,fun|53=>90|3=>3|4=>4|46=>180|5=>5|9=>9|n=>n,fun|n=>n⟩
theorem Tryd.lays129:Go.Proofs.Lays.n129 Tryd.prog Tryd.lays129_ren:={
  mixed:=by kernel_rfl
  f129:=Tryd.func113.trans (congrArg some (by kernel_rfl))
  t3:=Tryd.underlying3
  a3:=Tryd.isAgg3
  z3:=Tryd.sizeOf3
  v3:=Tryd.zeroValue3
  t4:=Tryd.underlying4
  a4:=Tryd.isAgg4
  z4:=Tryd.sizeOf4
  v4:=Tryd.zeroValue4
  t5:=Tryd.underlying5
  a5:=Tryd.isAgg5
  z5:=Tryd.sizeOf5
  v5:=Tryd.zeroValue5
  t9:=Tryd.underlying9
  a9:=Tryd.isAgg9
  z9:=Tryd.sizeOf9
  v9:=Tryd.zeroValue9
  t46:=Tryd.underlying180
  a46:=Tryd.isAgg180
  z46:=Tryd.sizeOf180
  v46:=Tryd.zeroValue180
  t53:=Tryd.underlying90
  a53:=Tryd.isAgg90
  z53:=Tryd.sizeOf90
  v53:=Tryd.zeroValue90 }
theorem Tryd.bits_Len64 (x:Int) (w:World) (h0:0≤x) (h1:x≤18446744073709551615) :
    Calls Tryd.prog 113 #[.int .u64 x] w fun e w'=>e=.returned (.int .i64 (Lib.bitLen x.toNat))∧w'=w:=Any.bits_Len64 Tryd.lays129 x w h0 h1
def Tryd.lays317_ren:Go.Shelf.Ren:=⟨fun|317=>112|n=>n,fun|3=>3|46=>180|n=>n,fun|n=>n⟩
theorem Tryd.lays317:Go.Proofs.Lays.n317 Tryd.prog Tryd.lays317_ren:={
  mixed:=by kernel_rfl
  f317:=Tryd.func112.trans (congrArg some (by kernel_rfl))
  t3:=Tryd.underlying3
  a3:=Tryd.isAgg3
  z3:=Tryd.sizeOf3
  v3:=Tryd.zeroValue3
  t46:=Tryd.underlying180
  a46:=Tryd.isAgg180
  z46:=Tryd.sizeOf180
  v46:=Tryd.zeroValue180 }
open Go.Lib in
theorem Tryd.internal_strconv_log10Pow2 (x:Nat) (h:x≤64) (w:World) :
    Calls Tryd.prog 112 #[.int .i64 x] w fun e w'=>e=.returned (.int .i64 (Lib.l10 x))∧w'=w:=Any.internal_strconv_log10Pow2 Tryd.lays317 x h w
def Tryd.lays318_ren:Go.Shelf.Ren:=⟨fun|318=>114|n=>n,fun|3=>3|4=>4|n=>n,fun|n=>n⟩
theorem Tryd.lays318:Go.Proofs.Lays.n318 Tryd.prog Tryd.lays318_ren:={
  mixed:=by kernel_rfl
  f318:=Tryd.func114.trans (congrArg some (by kernel_rfl))
  t3:=Tryd.underlying3
  a3:=Tryd.isAgg3
  z3:=Tryd.sizeOf3
  v3:=Tryd.zeroValue3
  t4:=Tryd.underlying4
  a4:=Tryd.isAgg4
  z4:=Tryd.sizeOf4
  v4:=Tryd.zeroValue4 }
open Go.Lib in
theorem Tryd.internal_strconv_bool2_int (b:Bool) (w:World) :
    Calls Tryd.prog 114 #[.bool b] w fun e w'=>e=.returned (.int .i64 (if b then 1 else 0))∧w'=w:=Any.internal_strconv_bool2_int Tryd.lays318 b w
def Tryd.lays283_ren:Go.Shelf.Ren:=⟨fun|283=>101|n=>n,fun|3=>3|9=>9|4=>4|n=>n,fun|n=>n⟩
theorem Tryd.lays283:Go.Proofs.Lays.n283 Tryd.prog Tryd.lays283_ren:={
  mixed:=by kernel_rfl
  f283:=Tryd.func101.trans (congrArg some (by kernel_rfl))
  t3:=Tryd.underlying3
  a3:=Tryd.isAgg3
  z3:=Tryd.sizeOf3
  v3:=Tryd.zeroValue3
  t4:=Tryd.underlying4
  a4:=Tryd.isAgg4
  z4:=Tryd.sizeOf4
  v4:=Tryd.zeroValue4
  t9:=Tryd.underlying9
  a9:=Tryd.isAgg9
  z9:=Tryd.sizeOf9
  v9:=Tryd.zeroValue9 }
open Go.Lib in
theorem Tryd.internal_strconv_small (i:Nat) (h:i < 100) (w:World) :
    Calls Tryd.prog 101 #[.int .i64 i] w fun e w'=>e=.returned (.string ⟨(Lib.decDigits i).toArray⟩)∧w'=w:=Any.internal_strconv_small Tryd.lays283 i h w
def Tryd.laysM284_ren:Go.Shelf.Ren:=⟨fun|284=>102|129=>113|317=>112|318=>114|n=>n,fun|53=>90|3=>3|212=>177|0=>0|4=>4|46=>180|5=>5|9=>9|n=>n,fun|17=>1|n=>n⟩
open Go.Lib in
def Tryd.lays285_ren:Go.Shelf.Ren:=⟨fun|285=>103|n=>n,fun|37=>28|53=>90|3=>3|4=>4|51=>178|9=>9|5=>5|0=>0|n=>n,fun|n=>n⟩
open Go.RowKit Go.Sort Go.Lib in
def Tryd.laysM246_ren:Go.Shelf.Ren:=⟨fun|246=>87|283=>101|284=>102|285=>103|286=>104|129=>113|317=>112|318=>114|319=>115|320=>116|337=>118|338=>119|n=>n,fun|2=>2|3=>3|9=>9|4=>4|171=>164|0=>0|53=>90|37=>28|5=>5|173=>167|212=>177|51=>178|20=>20|213=>179|46=>180|232=>184|233=>185|n=>n,fun|17=>1|18=>3|19=>4|n=>n⟩
open Go.RowKit Go.Sort Go.Lib in
def Tryd.lays246_ren:Go.Shelf.Ren:=⟨fun|246=>87|283=>101|284=>102|285=>103|286=>104|129=>113|317=>112|318=>114|319=>115|320=>116|337=>118|338=>119|n=>n,fun|2=>2|3=>3|9=>9|4=>4|171=>164|0=>0|53=>90|37=>28|5=>5|173=>167|212=>177|51=>178|20=>20|213=>179|46=>180|232=>184|233=>185|n=>n,fun|17=>1|18=>3|19=>4|n=>n⟩
open Go.RowKit Go.Sort Go.Lib in
def Tryd.laysM243_ren:Go.Shelf.Ren:=⟨fun|243=>65|246=>87|283=>101|284=>102|285=>103|286=>104|129=>113|317=>112|318=>114|319=>115|320=>116|337=>118|338=>119|n=>n,fun|3=>3|9=>9|2=>2|4=>4|171=>164|0=>0|53=>90|37=>28|5=>5|173=>167|212=>177|51=>178|20=>20|213=>179|46=>180|232=>184|233=>185|n=>n,fun|17=>1|18=>3|19=>4|n=>n⟩
open Go.RowKit Go.Sort Go.Lib in
def Tryd.lays243_ren:Go.Shelf.Ren:=⟨fun|243=>65|246=>87|283=>101|284=>102|285=>103|286=>104|129=>113|317=>112|318=>114|319=>115|320=>116|337=>118|338=>119|n=>n,fun|3=>3|9=>9|2=>2|4=>4|171=>164|0=>0|53=>90|37=>28|5=>5|173=>167|212=>177|51=>178|20=>20|213=>179|46=>180|232=>184|233=>185|n=>n,fun|17=>1|18=>3|19=>4|n=>n⟩
open Go.RowKit Go.Sort Go.Lib in
def Tryd.laysM171_ren:Go.Shelf.Ren:=⟨fun|171=>39|243=>65|246=>87|283=>101|284=>102|285=>103|286=>104|129=>113|317=>112|318=>114|319=>115|320=>116|337=>118|338=>119|n=>n,fun|3=>3|9=>9|2=>2|4=>4|171=>164|0=>0|53=>90|37=>28|5=>5|173=>167|212=>177|51=>178|20=>20|213=>179|46=>180|232=>184|233=>185|n=>n,fun|17=>1|18=>3|19=>4|n=>n⟩
open Go.RowKit Go.Sort Go.Lib in
def Tryd.lays171_ren:Go.Shelf.Ren:=⟨fun|171=>39|243=>65|246=>87|283=>101|284=>102|285=>103|286=>104|129=>113|317=>112|318=>114|319=>115|320=>116|337=>118|338=>119|n=>n,fun|3=>3|9=>9|2=>2|4=>4|171=>164|0=>0|53=>90|37=>28|5=>5|173=>167|212=>177|51=>178|20=>20|213=>179|46=>180|232=>184|233=>185|n=>n,fun|17=>1|18=>3|19=>4|n=>n⟩
open Go.RowKit Go.Sort Go.Lib in
def Tryd.laysM173_ren:Go.Shelf.Ren:=⟨fun|173=>66|246=>87|283=>101|284=>102|285=>103|286=>104|129=>113|317=>112|318=>114|319=>115|320=>116|337=>118|338=>119|n=>n,fun|2=>2|3=>3|9=>9|4=>4|171=>164|0=>0|53=>90|37=>28|5=>5|173=>167|212=>177|51=>178|20=>20|213=>179|46=>180|232=>184|233=>185|n=>n,fun|17=>1|18=>3|19=>4|n=>n⟩
open Go.RowKit Go.Sort Go.Lib in
def Tryd.lays173_ren:Go.Shelf.Ren:=⟨fun|173=>66|246=>87|283=>101|284=>102|285=>103|286=>104|129=>113|317=>112|318=>114|319=>115|320=>116|337=>118|338=>119|n=>n,fun|2=>2|3=>3|9=>9|4=>4|171=>164|0=>0|53=>90|37=>28|5=>5|173=>167|212=>177|51=>178|20=>20|213=>179|46=>180|232=>184|233=>185|n=>n,fun|17=>1|18=>3|19=>4|n=>n⟩
end Go.Proofs
namespace Go.Proofs.YtjhloakacicdiaaDoor
open Go.AH
attribute [local irreducible] W RS
theorem old_one {h B H:Hp} {a:Nat} (o:Old h B) (ho:OffS (fun i=>i=a) B H) (ha:h.n≤a):Old h H :=
  ⟨Nat.le_trans o.1 ho.1,fun i hi=>by rw [ho.2 i (Nat.lt_of_lt_of_le hi o.1) (fun e=>by omega),o.2 i hi]⟩
theorem fourS_length (off:Nat) (x:Nat × Nat × List Int):(fourS off x).2.2.length=x.2.2.length:=by unfold fourS;split<;>simp
theorem twoT_length (off:Nat) (x:Nat × Nat × List Int):(twoT off x).2.2.length=x.2.2.length:=by unfold twoT;split<;>simp
theorem oneT_length (off:Nat) (x:Nat × Nat × List Int):(oneT off x).length=x.2.2.length:=by unfold oneT;split<;>simp
theorem loopS_length:∀ (k off i u:Nat) (d:List Int),(loopS k off i u d).2.2.length=d.length
  | 0,_,_,_,_=>rfl
  | k+1,off,i,u,d=>by
    rw [loopS]
    split
    · rw [loopS_length k,eightS_length]
    · rfl
theorem fmtS_length (off N u:Nat) (d:List Int):(fmtS off N u d).length=d.length:=by
  unfold fmtS
  rw [oneT_length,twoT_length,fourS_length,loopS_length]
theorem len64_tf (x:Nat) (hx:x≤18446744073709551615) (h:Hp):TF Tryd.prog 113 ⟨[.int .u64 (x:Int)]⟩ h (.int .i64 ((Lib.bitLen x:Nat):Int)) h :=
  TF.of_same (by simp) (by simp) fun _ W _=>by
    have:=Tryd.bits_Len64 (x:Int) W (by omega) (by omega)
    simpa using this
theorem l10_tf (x:Nat) (hx:x≤64) (h:Hp):TF Tryd.prog 112 ⟨[.int .i64 (x:Int)]⟩ h (.int .i64 ((Lib.l10 x:Nat):Int)) h :=
  TF.of_same (by simp) (by simp) fun _ W _=>Tryd.internal_strconv_log10Pow2 x hx W
theorem bool2_tf (b:Bool) (h:Hp):TF Tryd.prog 114 ⟨[.bool b]⟩ h (.int .i64 (if b then 1 else 0)) h :=
  TF.of_same (by simp) (by simp) fun _ W _=>Tryd.internal_strconv_bool2_int b W
theorem smallN_tf (i:Nat) (hi:i < 100) (h:Hp):TF Tryd.prog 101 ⟨[.int .i64 (i:Int)]⟩ h (.string ⟨(Lib.decDigits i).toArray⟩) h :=
  TF.of_same (by simp) (by simp) fun _ W _=>Tryd.internal_strconv_small i hi W
def GT (h:Hp):Prop:=∃ e,h.m 1=some ⟨⟨Lib.pow10Tab.map (Value.int .u64)⟩,e⟩
theorem GT.up {h H:Hp} (g:GT h) (hu:∀ i b,h.m i=some b→H.m i=some b):GT H:=by
  obtain ⟨e,he⟩:=g
  exact ⟨e,hu _ _ he⟩
theorem pow_at {m:Nat} (hm:m < 20):(Lib.pow10Tab.map (Value.int .u64))[0+m * 1]?=some (.int .u64 ((10 ^ m:Nat):Int)):=by
  simp only [Lib.pow10Tab,Nat.zero_add,Nat.mul_one,List.getElem?_map,List.getElem?_range hm,Option.map_some]
def digS (u:Nat):Nat:=Lib.l10 (Lib.bitLen u)+(if 10 ^ Lib.l10 (Lib.bitLen u)≤u then 1 else 0)
theorem bitLen_64 {u:Nat} (hu:u≤18446744073709551615):Lib.bitLen u≤64:=Lib.bitLen_le u 64 (Nat.le_refl _) (by omega)
theorem l10_19 {x:Nat} (hx:x≤64):Lib.l10 x≤19:=by unfold Lib.l10;omega
theorem digS_le {u:Nat} (hu:u≤18446744073709551615):digS u≤20:=by
  have:=l10_19 (bitLen_64 hu)
  unfold digS;split<;>omega
theorem numDigits_tf (u:Nat) (hu:u≤18446744073709551615) (h:Hp) (hg:GT h):TF Tryd.prog 102 ⟨[.int .u64 (u:Int)]⟩ h (.int .i64 ((digS u:Nat):Int)) h:=by
  obtain ⟨e,hG⟩:=hg
  refine TF.dom fun hd=>?_
  have hGn:=hd _ _ hG
  have h19:=l10_19 (bitLen_64 hu)
  have hat:=pow_at (m:=Lib.l10 (Lib.bitLen u)) (by omega)
  unfold digS
  generalize 10 ^ Lib.l10 (Lib.bitLen u)=t at *
  refine TF.exact (fn:=Tryd.f102) (c:=(Tryd.f102.body.getD .skip)) Tryd.func102 (by kernel_rfl) Tryd.ntmps102 (by kernel_rfl) (fun s0=>⟨Nat.le_refl _,by simp,fun i b hb=>⟨s0.dom i b hb,s0.bd i b hb⟩⟩) fun π s0=>?_
  conv=>arg 2;whnf
  by_cases hc:t≤u
  · repeat (first|((with_reducible apply (RS.callA (g0:=113)));(iterate 3 exact rfl);exact fun B' _=>len64_tf u hu B')|((with_reducible apply (RS.callA (g0:=112)));(iterate 3 exact rfl);exact fun B' _=>l10_tf _ (bitLen_64 hu) B')|((with_reducible apply (RS.callA (g0:=114)));(iterate 3 exact rfl);exact fun B' _=>bool2_tf _ B')|((with_reducible apply RS.indexAddrArr);(iterate 4 exact rfl);omega)|((with_reducible apply RS.load1B);(iterate 3 exact rfl);exact hG;exact hGn;exact hat)|((with_reducible first|apply RS.move|apply RS.assign);iterate 3 exact rfl)|((with_reducible apply RS.cmpT);(iterate 4 exact rfl);(simp only [cmpP];omega))|((with_reducible apply RS.add1);(iterate 4 exact rfl);omega)|((with_reducible apply RS.nil);exact mixed;kernel_rfl)|(with_reducible first|apply W.seq|apply W.ret|apply thenK_n)|((with_reducible apply W.reg);kernel_rfl))
    exact endsK_ret _ (.cons (.tmp rfl) .nil) fun B' y=>⟨by rw [if_pos hc];rfl,fun j x hj=>y.up _ _ hj⟩
  · repeat (first|((with_reducible apply (RS.callA (g0:=113)));(iterate 3 exact rfl);exact fun B' _=>len64_tf u hu B')|((with_reducible apply (RS.callA (g0:=112)));(iterate 3 exact rfl);exact fun B' _=>l10_tf _ (bitLen_64 hu) B')|((with_reducible apply (RS.callA (g0:=114)));(iterate 3 exact rfl);exact fun B' _=>bool2_tf _ B')|((with_reducible apply RS.indexAddrArr);(iterate 4 exact rfl);omega)|((with_reducible apply RS.load1B);(iterate 3 exact rfl);exact hG;exact hGn;exact hat)|((with_reducible first|apply RS.move|apply RS.assign);iterate 3 exact rfl)|((with_reducible apply RS.cmpF);(iterate 4 exact rfl);(simp only [cmpN];omega))|((with_reducible apply RS.binFit);(iterate 5 exact rfl);omega)|((with_reducible apply RS.nil);exact mixed;kernel_rfl)|(with_reducible first|apply W.seq|apply W.ret|apply thenK_n)|((with_reducible apply W.reg);kernel_rfl))
    exact endsK_ret _ (.cons (.tmp rfl) .nil) fun B' y=>⟨by rw [if_neg hc];rfl,fun j x hj=>y.up _ _ hj⟩
end Go.Proofs.YtjhloakacicdiaaDoor
namespace Go.Proofs.YtjhloakacicdiaaDoor
open Go.AH
attribute [local irreducible] W RS
def byB (d:List Int):ByteArray:=⟨(d.map fun z=>UInt8.ofNat z.toNat).toArray⟩
def itoaS (n:Int):ByteArray :=
  if 0≤n∧n < 100 then ⟨(Lib.decDigits n.toNat).toArray⟩
  else if n < 0 then byB ((((fmtS 1 (digS n.natAbs) n.natAbs (List.replicate 24 0)).set 0 45).drop 0).take (1+digS n.natAbs))
  else byB (((fmtS 1 (digS n.natAbs) n.natAbs (List.replicate 24 0)).drop 1).take (digS n.natAbs))
theorem neg64 {n:Int} (h0:-9223372036854775808≤n) (h1:n < 0):IntKind.u64.wrap (0 - IntKind.u64.wrap n)=((n.natAbs:Nat):Int):=by
  simp only [IntKind.wrap,IntKind.signed,IntKind.bits];simp;omega
theorem pos64 {n:Int} (h0:0≤n) (h1:n≤9223372036854775807):IntKind.u64.wrap n=((n.natAbs:Nat):Int):=by
  simp only [IntKind.wrap,IntKind.signed,IntKind.bits];simp;omega
theorem RS.convTo {P:Program} {ops:Array Oper} {draw:Bool} {rs:List Rk} {l:List Oper} {fl:List (Nat × Value)} {nt:Nat} {h:SH} {K:Fr→SH→Prop} {d:Tmp} {ty:TypeId} {pos:String} {af:Array Edge} {gd:Option (Nat × Bool)} {t t':TypeId} {x:Operand} {k k0 k':IntKind} {n:Int} (m:Nat) [hu:TyU P t (.int k)] [hu':TyU P t' (.int k')] (hw:wantB ops ⟨some d,.convert t t' x,ty,pos,af,gd⟩ ⟨fl,nt⟩=some true) (hd:Nat.blt d nt=true) (hx:Fr.ev ⟨fl,nt⟩ x=some (.int k0 n)) (hv:k'.wrap n=(m:Int))
    (hk:RS P ops draw (recP h.k false [] (some [])::rs) l ⟨(d,.int k' (m:Int))::fl,nt⟩ h K):RS P ops draw rs (⟨some d,.convert t t' x,ty,pos,af,gd⟩::l) ⟨fl,nt⟩ h K:=by
  rw [← hv] at hk;exact RS.convI hw hd hx hk
set_option maxRecDepth 100000 in
set_option maxHeartbeats 0 in
theorem fmtInt_ex (n:Int) (hn:fitI n) (h:Hp) (hg:GT h):EX Tryd.prog 87 [.int .i64 n,.int .i64 10] h (fun v h'=>v=.string (itoaS n)∧Old h h'):=by
  obtain ⟨n0,n1⟩:=hn
  have hk20:digS n.natAbs≤20:=digS_le (by omega)
  by_cases hs:0≤n∧n < 100
  · have hSm:∀ B',TF Tryd.prog 101 ⟨[.int .i64 n]⟩ B' (.string ⟨(Lib.decDigits n.toNat).toArray⟩) B':=fun B'=>by
      have:=smallN_tf n.toNat (by omega) B'
      rwa [Int.toNat_of_nonneg hs.1] at this
    refine EX.intro (fn:=Tryd.f87) (c:=(Tryd.f87.body.getD .skip)) Tryd.func87 (by kernel_rfl) Tryd.ntmps87 (by kernel_rfl) fun π s0=>?_
    conv=>arg 2;whnf
    repeat (first|((with_reducible apply (RS.callA (g0:=101)));(iterate 3 exact rfl);exact fun B' _=>hSm B')|((with_reducible first|apply RS.move|apply RS.assign);iterate 3 exact rfl)|((with_reducible apply RS.pickT);iterate 4 exact rfl)|((with_reducible apply RS.cmpT);(iterate 4 exact rfl);(simp only [cmpP];omega))|((with_reducible apply RS.cmpC);iterate 5 exact rfl)|((with_reducible apply RS.nil);exact mixed;kernel_rfl)|(with_reducible first|apply W.seq|apply W.ret|apply thenK_n|apply thenK_r)|((with_reducible apply W.reg);kernel_rfl)|((with_reducible apply W.condT);kernel_rfl;exact rfl))
    exact endsK_ret _ (.cons (.tmp rfl) .nil) fun B' y=>⟨by rw [itoaS,if_pos hs];rfl,y.oldH⟩
  · by_cases hneg:n < 0
    · skip
      refine EX.intro (fn:=Tryd.f87) (c:=(Tryd.f87.body.getD .skip)) Tryd.func87 (by kernel_rfl) Tryd.ntmps87 (by kernel_rfl) fun π s0=>?_
      conv=>arg 2;whnf
      ((with_reducible apply W.seq);repeat (first|((with_reducible apply RS.assign);iterate 3 exact rfl)|((with_reducible apply RS.nil);exact mixed;kernel_rfl)|((with_reducible apply W.reg);kernel_rfl)|(with_reducible apply thenK_n)))
      ((with_reducible apply W.seq);repeat (fail))
      ((with_reducible apply W.seq);repeat (first|((with_reducible apply RS.move);iterate 3 exact rfl)|((with_reducible apply RS.cmpC);iterate 5 exact rfl)|((with_reducible apply RS.nil);exact mixed;kernel_rfl)|((with_reducible apply W.reg);kernel_rfl)|((with_reducible apply W.condT);kernel_rfl;exact rfl)|(with_reducible apply thenK_n)))
      ((with_reducible apply W.seq);repeat (fail))
      ((with_reducible apply W.seq);repeat (first|((with_reducible apply RS.move);iterate 3 exact rfl)|((with_reducible apply RS.pickF);iterate 4 exact rfl)|((with_reducible apply RS.cmpF);(iterate 4 exact rfl);(simp only [cmpN];omega))|((with_reducible apply RS.skip);iterate 2 exact rfl)|((with_reducible apply RS.nil);exact mixed;kernel_rfl)|((with_reducible apply W.reg);kernel_rfl)|(with_reducible first|apply W.skip|apply thenK_n)|((with_reducible apply W.condF);kernel_rfl;exact rfl)))
      ((with_reducible apply W.seq);repeat (first|((with_reducible apply RS.alloc);iterate 2 exact rfl)|((with_reducible apply RS.nil);exact mixed;kernel_rfl)|((with_reducible apply W.reg);kernel_rfl)|(with_reducible apply thenK_n)))
      refine W.absorbX fun B π1 a1=>?_
      have hA:B.m (π 0)=some ⟨⟨u8s (List.replicate 24 0)⟩,164⟩:=a1.loc 0 (by decide:(0:Nat) < 1)
      have hq0:h.n≤π 0:=a1.lo 0 (by decide:(0:Nat) < 1)
      generalize π 0=q at *
      have haw:rwM≤q:=Nat.le_trans s0.rw hq0
      have hgB:=hg.up a1.up
      repeat (first|((with_reducible apply (RS.negN n.natAbs));(iterate 3 exact rfl);exact neg64 (by omega) (by omega))|((with_reducible apply (RS.callA (g0:=102)));(iterate 3 exact rfl);exact fun B' hB'=>numDigits_tf n.natAbs (by omega) B' (hgB.up fun i b hb=>hB'.up i b hb))|((with_reducible apply (RS.sliceArr (l0:=1) (h0:=1+digS n.natAbs)));(iterate 3 exact rfl);exact ⟨_,_,rfl,rfl⟩;exact ⟨_,_,rfl,rfl⟩;omega;omega;omega;exact of_decide_eq_true rfl)|((with_reducible apply (RS.callEx (g0:=103)));(iterate 3 exact rfl);intro B1 hB1;refine ⟨_,fb10_ex q _ _ _ n.natAbs (List.replicate 24 0) 164 (by omega) (by omega) (by rw [List.length_replicate];omega) B1 (hB1.up _ _ hA) haw,?_⟩;rintro v H2 π2 ⟨rfl,hA2,ho2⟩ sH2 hle2)|((with_reducible apply (RS.indexAddrArr (m:=0)));(iterate 4 exact rfl);omega)|((with_reducible first|apply RS.move|apply RS.assign|apply RS.convI);iterate 3 exact rfl)|((with_reducible apply RS.cmpT);(iterate 4 exact rfl);(simp only [cmpP];omega))|((with_reducible apply RS.binFit);(iterate 5 exact rfl);omega)|((with_reducible apply RS.nil);exact mixed;kernel_rfl)|(with_reducible first|apply W.seq|apply thenK_n)|((with_reducible apply W.reg);kernel_rfl)|((with_reducible apply W.condT);kernel_rfl;exact rfl))
      have hAn2:=sH2.dom _ _ hA2
      repeat (first|((with_reducible apply (RS.sliceArr (l0:=0) (h0:=1+digS n.natAbs)));(iterate 4 exact rfl);exact ⟨_,_,rfl,rfl⟩;omega;omega;omega;exact of_decide_eq_true rfl)|((with_reducible apply RS.storeB);(iterate 3 exact rfl);exact hA2;exact hAn2;exact haw;(simp only [u8s,List.length_map,fmtS_length,List.length_replicate];omega);(iterate 2 exact rfl);exact setL_u8s _ _ _)|((with_reducible apply RS.bytesStrB);(iterate 3 exact rfl);(first|exact setS_self _ _ _|exact hA2);exact hAn2;exact rfl;(simp only [List.length_set,fmtS_length,List.length_replicate];omega))|((with_reducible first|apply RS.move|apply RS.assign);iterate 3 exact rfl)|((with_reducible apply RS.binFit);(iterate 5 exact rfl);omega)|((with_reducible apply RS.nil);exact mixed;kernel_rfl)|(with_reducible first|apply W.seq|apply W.ret|apply thenK_n|apply thenK_r)|((with_reducible apply W.reg);kernel_rfl))
      refine endsK_ret _ (.cons (.tmp rfl) .nil) fun B' y=>⟨?_,(old_one (a1.oldH.trans hB1.oldH) (set_offA ho2) hq0).trans y.oldH⟩
      rw [itoaS,if_neg hs,if_pos hneg]
      simp only [resultOf,byB,Nat.zero_add,Nat.mul_one,Nat.add_sub_cancel_left,Nat.sub_zero,Nat.add_zero,Nat.mul_zero,Nat.zero_mul]
    · skip
      refine EX.intro (fn:=Tryd.f87) (c:=(Tryd.f87.body.getD .skip)) Tryd.func87 (by kernel_rfl) Tryd.ntmps87 (by kernel_rfl) fun π s0=>?_
      conv=>arg 2;whnf
      ((with_reducible apply W.seq);repeat (first|((with_reducible apply RS.assign);iterate 3 exact rfl)|((with_reducible apply RS.nil);exact mixed;kernel_rfl)|((with_reducible apply W.reg);kernel_rfl)|(with_reducible apply thenK_n)))
      ((with_reducible apply W.seq);repeat (fail))
      ((with_reducible apply W.seq);repeat (first|((with_reducible apply RS.move);iterate 3 exact rfl)|((with_reducible apply RS.cmpC);iterate 5 exact rfl)|((with_reducible apply RS.nil);exact mixed;kernel_rfl)|((with_reducible apply W.reg);kernel_rfl)|((with_reducible apply W.condT);kernel_rfl;exact rfl)|(with_reducible apply thenK_n)))
      ((with_reducible apply W.seq);repeat (fail))
      ((with_reducible apply W.seq);repeat (first|((with_reducible apply RS.move);iterate 3 exact rfl)|((with_reducible apply RS.pickT);iterate 4 exact rfl)|((with_reducible apply RS.cmpT);(iterate 4 exact rfl);(simp only [cmpP];omega))|((with_reducible apply RS.cmpF);(iterate 4 exact rfl);(simp only [cmpN];omega))|((with_reducible apply RS.nil);exact mixed;kernel_rfl)|((with_reducible apply W.reg);kernel_rfl)|(with_reducible first|apply W.skip|apply thenK_n)|((with_reducible apply W.condF);kernel_rfl;exact rfl)))
      ((with_reducible apply W.seq);repeat (first|((with_reducible apply RS.alloc);iterate 2 exact rfl)|((with_reducible apply RS.nil);exact mixed;kernel_rfl)|((with_reducible apply W.reg);kernel_rfl)|(with_reducible apply thenK_n)))
      refine W.absorbX fun B π1 a1=>?_
      have hA:B.m (π 0)=some ⟨⟨u8s (List.replicate 24 0)⟩,164⟩:=a1.loc 0 (by decide:(0:Nat) < 1)
      have hq0:h.n≤π 0:=a1.lo 0 (by decide:(0:Nat) < 1)
      generalize π 0=q at *
      have haw:rwM≤q:=Nat.le_trans s0.rw hq0
      have hgB:=hg.up a1.up
      repeat (first|((with_reducible apply (RS.convTo n.natAbs));(iterate 3 exact rfl);exact pos64 (by omega) (by omega))|((with_reducible apply (RS.callA (g0:=102)));(iterate 3 exact rfl);exact fun B' hB'=>numDigits_tf n.natAbs (by omega) B' (hgB.up fun i b hb=>hB'.up i b hb))|((with_reducible apply (RS.sliceArr (l0:=1) (h0:=1+digS n.natAbs)));(iterate 3 exact rfl);exact ⟨_,_,rfl,rfl⟩;exact ⟨_,_,rfl,rfl⟩;omega;omega;omega;exact of_decide_eq_true rfl)|((with_reducible apply (RS.callEx (g0:=103)));(iterate 3 exact rfl);intro B1 hB1;refine ⟨_,fb10_ex q _ _ _ n.natAbs (List.replicate 24 0) 164 (by omega) (by omega) (by rw [List.length_replicate];omega) B1 (hB1.up _ _ hA) haw,?_⟩;rintro v H2 π2 ⟨rfl,hA2,ho2⟩ sH2 hle2)|((with_reducible first|apply RS.move|apply RS.assign);iterate 3 exact rfl)|((with_reducible apply RS.cmpF);(iterate 4 exact rfl);(simp only [cmpN];omega))|((with_reducible apply RS.binFit);(iterate 5 exact rfl);omega)|((with_reducible apply RS.nil);exact mixed;kernel_rfl)|(with_reducible first|apply W.seq|apply W.skip|apply thenK_n)|((with_reducible apply W.reg);kernel_rfl)|((with_reducible apply W.condF);kernel_rfl;exact rfl))
      have hAn2:=sH2.dom _ _ hA2
      repeat (first|((with_reducible apply RS.bytesStrB);(iterate 3 exact rfl);(first|exact setS_self _ _ _|exact hA2);exact hAn2;exact rfl;(simp only [List.length_set,fmtS_length,List.length_replicate];omega))|((with_reducible apply RS.assign);iterate 3 exact rfl)|((with_reducible apply RS.nil);exact mixed;kernel_rfl)|(with_reducible first|apply W.ret|apply thenK_n|apply thenK_r))
      refine endsK_ret _ (.cons (.tmp rfl) .nil) fun B' y=>⟨?_,(old_one (a1.oldH.trans hB1.oldH) (ho2) hq0).trans y.oldH⟩
      rw [itoaS,if_neg hs,if_neg hneg]
      simp only [resultOf,byB,Nat.zero_add,Nat.mul_one,Nat.add_sub_cancel_left,Nat.sub_zero,Nat.add_zero,Nat.mul_zero,Nat.zero_mul]
theorem itoaI_ex (n:Int) (hn:fitI n) (h:Hp) (hg:GT h):EX Tryd.prog 65 [.int .i64 n] h (fun v h'=>v=.string (itoaS n)∧Old h h'):=by
  refine EX.intro (fn:=Tryd.f65) (c:=(Tryd.f65.body.getD .skip)) Tryd.func65 (by kernel_rfl) Tryd.ntmps65 (by kernel_rfl) fun π s0=>?_
  conv=>arg 2;whnf
  repeat (first|((with_reducible apply RS.callEx);(iterate 3 exact rfl);intro B1 hB1;refine ⟨_,fmtInt_ex n hn B1 (hg.up hB1.up),?_⟩;rintro v H2 π2 ⟨rfl,ho2⟩ sH2 hle2)|((with_reducible first|apply RS.move|apply RS.assign);iterate 3 exact rfl)|((with_reducible apply RS.nil);exact mixed;kernel_rfl)|(with_reducible first|apply W.seq|apply W.ret|apply thenK_n)|((with_reducible apply W.reg);kernel_rfl))
  exact endsK_ret _ (.cons (.tmp rfl) .nil) fun B' y=>⟨rfl,(hB1.oldH.trans ho2).trans y.oldH⟩
theorem fmt10_ex (n:Int) (hn:fitI n) (h:Hp) (hg:GT h):EX Tryd.prog 66 [.int .i64 n,.int .i64 10] h (fun v h'=>v=.string (itoaS n)∧Old h h'):=by
  refine EX.intro (fn:=Tryd.f66) (c:=(Tryd.f66.body.getD .skip)) Tryd.func66 (by kernel_rfl) Tryd.ntmps66 (by kernel_rfl) fun π s0=>?_
  conv=>arg 2;whnf
  repeat (first|((with_reducible apply RS.callEx);(iterate 3 exact rfl);intro B1 hB1;refine ⟨_,fmtInt_ex n hn B1 (hg.up hB1.up),?_⟩;rintro v H2 π2 ⟨rfl,ho2⟩ sH2 hle2)|((with_reducible first|apply RS.move|apply RS.assign);iterate 3 exact rfl)|((with_reducible apply RS.nil);exact mixed;kernel_rfl)|(with_reducible first|apply W.seq|apply W.ret|apply thenK_n)|((with_reducible apply W.reg);kernel_rfl))
  exact endsK_ret _ (.cons (.tmp rfl) .nil) fun B' y=>⟨rfl,(hB1.oldH.trans ho2).trans y.oldH⟩
theorem itoa_ex (n:Int) (hn:fitI n) (h:Hp) (hg:GT h):EX Tryd.prog 39 [.int .i64 n] h (fun v h'=>v=.string (itoaS n)∧Old h h'):=by
  refine EX.intro (fn:=Tryd.f39) (c:=(Tryd.f39.body.getD .skip)) Tryd.func39 (by kernel_rfl) Tryd.ntmps39 (by kernel_rfl) fun π s0=>?_
  conv=>arg 2;whnf
  repeat (first|((with_reducible apply RS.callEx);(iterate 3 exact rfl);intro B1 hB1;refine ⟨_,itoaI_ex n hn B1 (hg.up hB1.up),?_⟩;rintro v H2 π2 ⟨rfl,ho2⟩ sH2 hle2)|((with_reducible first|apply RS.move|apply RS.assign);iterate 3 exact rfl)|((with_reducible apply RS.nil);exact mixed;kernel_rfl)|(with_reducible first|apply W.seq|apply W.ret|apply thenK_n)|((with_reducible apply W.reg);kernel_rfl))
  exact endsK_ret _ (.cons (.tmp rfl) .nil) fun B' y=>⟨rfl,(hB1.oldH.trans ho2).trans y.oldH⟩
end Go.Proofs.YtjhloakacicdiaaDoor
namespace Go.Proofs.YtjhloakacicdiaaDoor
open Go.AH
section
variable {P:Program}
theorem HOK.forget {G:Nat} {h h':Hp} {ρ ρ':Env} {W W':World} (o:HOK G h ρ W) (o':HOK G h' ρ' W') (hold:Old h h'):HOK G h ρ' W' where
  fits i b hb:=o'.fits i b ((hold.2 i (o.lt i b hb)).trans hb)
  lt:=o.lt
  inj i j b c hi hb hc he:=o'.inj i j b c hi ((hold.2 i (o.lt i b hb)).trans hb) ((hold.2 j (o.lt j c hc)).trans hc) he
  bd:=o.bd
  glob:=o'.glob
  gle:=o.gle
  gow:=o.gow
theorem Ext.forget {h h':Hp} {ρ ρ':Env} {W W':World} {G:Nat} (o:HOK G h ρ W) (E:Ext h h' ρ ρ' W W') (hold:Old h h'):Ext h h ρ ρ' W W' where
  agree:=E.agree
  mono:=Nat.le_refl _
  kept:=E.kept
  size:=E.size
  own i b hi hb _:=⟨i,b,hi,hb,((E.agree i (o.lt i b hb)).1).symm⟩
  tape:=E.tape
  os:=E.os
  output:=E.output
  surv i b' hi hb':=E.surv i b' hi ((hold.2 i hi).trans hb')
theorem TF.ofEX {g:FuncId} {args:List Value} {h:Hp} {v:Value} (hv:bnd 0 v) (he:EX P g args h (fun v' h'=>v'=v∧Old h h')):TF P g ⟨args⟩ h v h:=by
  intro hb ρ W ho
  obtain ⟨v',h',ht,rfl,hold⟩:=he ⟨ρ,W,ho⟩ (fun x hx=>hb x (by simpa using hx))
  refine (ht hb ρ W ho).mono ?_
  rintro e W' ⟨ρ',he,_,ho',E⟩
  exact ⟨ρ',he,bnd_mono (Nat.zero_le _) _ hv,HOK.forget ho ho' hold,Ext.forget ho E hold⟩
theorem HOK.below {G:Nat} {h:Hp} {ρ:Env} {W W':World} (o:HOK G h ρ W) (hB:RowKit.Below W.heap.size W W'):HOK G h ρ W' where
  fits i b hb:=by rw [hB.block _ (o.fits i b hb).lt];exact o.fits i b hb
  lt:=o.lt
  inj:=o.inj
  bd:=o.bd
  glob:=o.glob
  gle:=o.gle
  gow:=o.gow
theorem Ext.below {G:Nat} {h:Hp} {ρ:Env} {W W':World} (o:HOK G h ρ W) (hB:RowKit.Below W.heap.size W W'):Ext h h ρ ρ W W' where
  agree _ _:=⟨rfl,rfl,rfl⟩
  mono:=Nat.le_refl _
  kept c hc _:=hB.block c hc
  size:=hB.size
  own i b hi hb _:=⟨i,b,hi,hb,rfl⟩
  tape:=hB.tape
  os:=hB.os
  output:=hB.output
  surv i b' _ hb':=⟨b',hb',Nat.le_refl _,by rw [hB.block _ (o.fits i b' hb').lt];exact .refl _ _⟩
theorem TF.of_below {g:FuncId} {args:Array Value} {v:Value} {h:Hp} (hv:bnd 0 v) (hc:∀ ρ W,HOK P.globals.size h ρ W→Calls P g (args.map (ren ρ)) W fun e W'=>e=.returned v∧RowKit.Below W.heap.size W W'):TF P g args h v h:=by
  intro _ ρ W ho
  refine (hc ρ W ho).mono ?_
  rintro e W' ⟨he,hB⟩
  exact ⟨ρ,by rw [ren_free ρ v hv];exact he,bnd_mono (Nat.zero_le _) _ hv,HOK.below ho hB,Ext.below ho hB⟩
end
theorem itoa_tf (n:Int) (hn:fitI n) (h:Hp) (hg:GT h):TF Tryd.prog 39 ⟨[.int .i64 n]⟩ h (.string (itoaS n)) h:=TF.ofEX (by simp) (itoa_ex n hn h hg)
theorem fmt10_tf (n:Int) (hn:fitI n) (h:Hp) (hg:GT h):TF Tryd.prog 66 ⟨[.int .i64 n,.int .i64 10]⟩ h (.string (itoaS n)) h:=TF.ofEX (by simp) (fmt10_ex n hn h hg)
def linesS (xs:List ByteArray) (sep:ByteArray):ByteArray:=⟨(Lib.join (xs.map (·.data.toList)) sep.data.toList).toArray⟩
theorem sjoinNone_tf (sep:ByteArray) (c:Nat) (h:Hp):TF Tryd.prog 42 ⟨[.slice none 0 c,.string sep]⟩ h (.string (linesS [] sep)) h :=
  TF.of_same (by simp) (by simp) fun _ W _=>Tryd.strings_Join_none none c sep W
theorem sjoinRow_tf (xs:List ByteArray) (sep:ByteArray) (b cap:Nat) (e:TypeId) (t:List Value) (h:Hp) (hm:h.m b=some ⟨⟨xs.map Value.string++t⟩,e⟩) (hb:rwM≤b) (hcp:cap=capOf 1∨(cap=xs.length+t.length∧cap < capMark)) (hN:xs.length≤140737488355328) (hlen:(Lib.join (xs.map (·.data.toList)) sep.data.toList).length≤140737488355328) :
    TF Tryd.prog 42 ⟨[.slice (some ⟨b,0,none⟩) xs.length cap,.string sep]⟩ h (.string (linesS xs sep)) h:=by
  refine TF.of_below (by simp) fun ρ W ho=>?_
  have hf:=ho.fits _ _ hm
  obtain ⟨tail,fr,he,hcap,_⟩:=hf.own hb
  have hc:xs.length≤renCap ρ ⟨b,0,none⟩ cap:=by
    rcases hcp with rfl|⟨h1,h2⟩
    · have h1:renCap ρ ⟨b,0,none⟩ (capOf 1)=ρ.cap b:=by
        unfold renCap capOf
        rw [if_neg (by omega)]
        simp
      rw [h1,← hcap]
      simp
      omega
    · unfold renCap
      rw [if_pos h2]
      omega
  have hcells:∀ (j:Nat) x,xs[j]?=some x→W.cell? ⟨ρ.loc b,ρ.sh b+j,none⟩=some (.string x):=by
    intro j x hj
    have hjl:=(List.getElem?_eq_some_iff.1 hj).1
    have:=ho.cell (a:=⟨b,j,none⟩) hm rfl (v:=.string x) (by
      rw [List.getElem?_toArray,List.getElem?_append_left (by simpa using hjl)]
      simp [hj])
    simpa [renAddr,Nat.add_comm] using this
  have:=Tryd.strings_Join (ρ.loc b) (ρ.sh b) _ xs sep W hcells hf.lt hN hc hlen
  simpa [renAddr,linesS] using this
end Go.Proofs.YtjhloakacicdiaaDoor
namespace Go.Proofs.YtjhloakacicdiaaDoor
open Go.AH
attribute [local irreducible] W RS
theorem empty_ex (n:Int) (h0:0≤n) (h1:n≤1000000) (h:Hp):EX Tryd.prog 45 [.int .i64 n] h (fun v h'=>∃ sb,v=.slice (some ⟨sb,0,none⟩) (emptyS n).length (emptyS n).length∧h'.m sb=some ⟨⟨setC (emptyS n)⟩,90⟩∧Old h h'∧h.n≤sb):=by
  refine (TF.ex (empty_tf n h0 h1 h)).mono ?_
  rintro v h' _ ⟨rfl,rfl⟩
  exact ⟨h.n,rfl,push_new _ _,Old.push _ _,Nat.le_refl _⟩
theorem emptyS_length (n:Int):(emptyS n).length=((max n 0).toNat+63) / 64:=by simp [emptyS]
theorem takeV_part {off w j n:Nat} {cs vs:List Value} (h:takeV off w cs=vs) (hj:j+n≤w):takeV (off+j) n cs=(vs.drop j).take n:=by
  subst h
  rw [takeV_eq,takeV_eq,List.drop_take,List.drop_drop,List.take_take,Nat.min_eq_left (by omega)]
def intsV (l:List Int):List Value:=l.reverse.map (.int .i64)
@[simp] theorem intsV_length (l:List Int):(intsV l).length=l.length:=by simp [intsV]
theorem intsV_cons (n:Int) (l:List Int):intsV (n::l)=intsV l++[.int .i64 n]:=by simp [intsV]
structure ReachI (h:Hp) (L:Nat) (sb wb:Nat) (X:Nat→Prop) (s:SetS) (work:List Int) (B:Hp):Prop where
  old:Old h B
  hs:B.m sb=some ⟨⟨setC s⟩,90⟩
  hl:s.length=L
  stk:∃ A cap,B.m wb=some ⟨⟨[.slice A work.length cap]⟩,34⟩∧StkRow B 3 A cap (intsV work)∧∀ a,A=some a→h.n≤a.block∧¬ X a.block
theorem ReachI.up {h:Hp} {L sb wb:Nat} {X:Nat→Prop} {s:SetS} {work:List Int} {B B':Hp} (r:ReachI h L sb wb X s work B) (hd:∀ i x,B.m i=some x→i < B.n) (o:Old B B'):ReachI h L sb wb X s work B':=by
  obtain ⟨A,cap,h1,h2,h3⟩:=r.stk
  exact ⟨r.old.trans o,o.up hd _ _ r.hs,r.hl,A,cap,o.up hd _ _ h1,h2.up (o.up hd),h3⟩
theorem setH_keep {h:Hp} {A:Option Addr} {s s':SetS} (hs:SetAt h A s) {i:Nat} {b:Blk} (hm:h.m i=some b) (he:b.elem≠90):(setH h A s').m i=some b:=by
  cases hs with
  | none=>exact hm
  | some hm' hr =>
    rename_i k
    show (if i=k then _ else h.m i)=some b
    by_cases e:i=k
    · subst e
      rw [hm'] at hm
      injection hm with hm
      rw [← hm] at he
      exact absurd rfl he
    · rw [if_neg e];exact hm
theorem setH_stk {h:Hp} {A:Option Addr} {s s':SetS} (hs:SetAt h A s) {B:Option Addr} {cap:Nat} {vs:List Value} (st:StkRow h 3 B cap vs):StkRow (setH h A s') 3 B cap vs:=by
  cases st with
  | nil=>exact .nil
  | row hm hr hc=>exact .row (setH_keep hs hm (by simp)) hr hc
theorem stk_ne {h:Hp} {B:Option Addr} {cap:Nat} {vs:List Value} (st:StkRow h 3 B cap vs) {i:Nat} {b:Blk} (hm:h.m i=some b) (he:b.elem≠3):B≠some ⟨i,0,none⟩:=by
  intro e
  cases st with
  | nil=>cases e
  | row hm' hr hc =>
    injection e with e
    injection e with e
    subst e
    rw [hm'] at hm
    injection hm with hm
    rw [← hm] at he
    exact he rfl
set_option maxRecDepth 100000 in
theorem reached_ex (fb:Nat) (regs:Int) (A:Option Addr) (c:Nat) (bl:List BlockS) (hne:bl≠[]) (hlen:bl.length≤100000) (htg:tgtOK bl) (h:Hp) (hf:FAt h fb regs A c bl) :
    EX Tryd.prog 71 [.pointer (some ⟨fb,0,none⟩)] h (fun v h'=>∃ A' c',v=.slice A' (reachedS bl).length c'∧SetAt h' A' (reachedS bl)∧Old h h'∧∀ a,A'=some a→h.n≤a.block):=by
  refine EX.intro (fn:=Tryd.f71) (c:=(Tryd.f71.body.getD .skip)) Tryd.func71 (by kernel_rfl) Tryd.ntmps71 (by kernel_rfl) fun π s0=>?_
  conv=>arg 2;whnf
  have hpos:0 < bl.length:=List.length_pos_iff.2 hne
  have hn0:(0:Int)≤(bl.length:Int):=by omega
  have hn1:(bl.length:Int)≤1000000:=by omega
  have hd:=s0.dom
  obtain ⟨fcs,hF,h3,h5⟩:=hf.hf
  have hFn:=s0.dom _ _ hF
  ((with_reducible apply W.seq);repeat (first|((with_reducible apply RS.assign);iterate 3 exact rfl)|((with_reducible apply RS.nil);exact mixed;kernel_rfl)|((with_reducible apply W.reg);kernel_rfl)|(with_reducible apply thenK_n)))
  ((with_reducible apply W.seq);repeat (first|((with_reducible apply RS.load1B);(iterate 3 exact rfl);exact hF;exact hFn;first|exact h5|exact h3)|((with_reducible apply RS.callEx);(iterate 3 exact rfl);intro B1 hB1;refine ⟨_,empty_ex _ hn0 hn1 B1,?_⟩;rintro v H1 π1 ⟨sb,rfl,hs1,ho1,hsb⟩ sH1 hle1)|((with_reducible first|apply RS.nilCheck|apply RS.move|apply RS.assign|apply RS.lenSl|apply RS.fieldAddr);iterate 3 exact rfl)|((with_reducible apply RS.nil);exact mixed;kernel_rfl)|((with_reducible apply W.reg);kernel_rfl)|(with_reducible apply thenK_n)))
  have hold1:Old h H1:=hB1.oldH.trans ho1
  replace hF:=hold1.up hd _ _ hF
  replace hFn:=sH1.dom _ _ hF
  ((with_reducible apply W.seq);repeat (fail))
  ((with_reducible apply W.seq);repeat (first|((with_reducible apply RS.load1B);(iterate 3 exact rfl);exact hF;exact hFn;first|exact h5|exact h3)|((with_reducible first|apply RS.nilCheck|apply RS.move|apply RS.lenSl|apply RS.fieldAddr);iterate 3 exact rfl)|((with_reducible apply RS.cmpF);(iterate 4 exact rfl);(simp only [cmpN];omega))|((with_reducible apply RS.nil);exact mixed;kernel_rfl)|((with_reducible apply W.reg);kernel_rfl)|(with_reducible first|apply W.skip|apply thenK_n)|((with_reducible apply W.condF);kernel_rfl;exact rfl)))
  ((with_reducible apply W.seq);repeat (first|((with_reducible apply RS.buildSlice);iterate 8 exact rfl)|((with_reducible apply RS.store);(iterate 5 exact rfl);exact Nat.le_of_ble_eq_true rfl;iterate 3 exact rfl)|((with_reducible apply RS.alloc);iterate 2 exact rfl)|((with_reducible apply RS.nil);exact mixed;kernel_rfl)|((with_reducible apply W.reg);kernel_rfl)|(with_reducible apply thenK_n)))
  refine W.absorbX fun B2 π2 a2=>?_
  have hrow0:B2.m (π1 0)=some ⟨⟨[.int .i64 0]⟩,3⟩:=a2.loc 0 (Nat.lt_of_lt_of_le Nat.zero_lt_one (Nat.le_succ 1))
  have hwb0:B2.m (π1 1)=some ⟨⟨[.slice (some ⟨π1 0,0,none⟩) 1 1]⟩,34⟩:=a2.loc 1 (Nat.lt_succ_self 1)
  have hr0:H1.n≤π1 0:=a2.lo 0 (Nat.lt_of_lt_of_le Nat.zero_lt_one (Nat.le_succ 1))
  have hw0:H1.n≤π1 1:=a2.lo 1 (Nat.lt_succ_self 1)
  have hw1:π1 1 < B2.n:=a2.hi 1 (Nat.lt_succ_self 1)
  generalize π1 0=r0 at *
  generalize π1 1=wb at *
  have hwr:rwM≤wb:=Nat.le_trans s0.rw (Nat.le_trans hold1.1 hw0)
  have hsbr:rwM≤sb:=Nat.le_trans s0.rw (Nat.le_trans hB1.le hsb)
  have hs2:SetAt B2 (some ⟨sb,0,none⟩) (emptyS (bl.length:Int)):=.some (a2.up _ _ hs1) hsbr
  have hsl:(emptyS (bl.length:Int)).length≤1000000000:=by rw [emptyS_length];omega
  ((with_reducible apply W.seq);repeat (first|((with_reducible apply RS.callEx);(iterate 3 exact rfl);intro B3 hB3;refine ⟨_,TF.ex (put_tf _ _ _ 0 (by unfold fitI;omega) hsl B3 (setAt_up hs2 hB3.up)),?_⟩;rintro v H3 π3 ⟨rfl,rfl⟩ sH3 hle3)|((with_reducible apply RS.move);iterate 3 exact rfl)|((with_reducible apply RS.nil);exact mixed;kernel_rfl)|((with_reducible apply W.reg);kernel_rfl)|(with_reducible apply thenK_n)))
  have hI0:ReachI h (emptyS (bl.length:Int)).length sb wb (fun _=>False) (putS (emptyS (bl.length:Int)) 0) [0] (setH B3 (some ⟨sb,0,none⟩) (putS (emptyS (bl.length:Int)) 0)):=by
    have hne:wb≠sb:=by
      intro e
      have:=a2.up _ _ hs1
      rw [← e,hwb0] at this
      simp at this
    have hne2:r0≠sb:=by
      intro e
      have:=a2.up _ _ hs1
      rw [← e,hrow0] at this
      simp at this
    refine ⟨?_,?_,putS_length _ _,some ⟨r0,0,none⟩,1,?_,.row (t:=[]) ?_ ?_ (.inr ⟨rfl,by decide⟩),?_⟩
    · have o:OffS (SN (some ⟨sb,0,none⟩)) h (setH B3 (some ⟨sb,0,none⟩) (putS (emptyS (bl.length:Int)) 0)):=((hold1.trans a2.oldH).trans hB3.oldH).off.same (setH_off (setAt_up hs2 hB3.up))
      refine o.old fun i hi e=>?_
      have e:some _=some _:=e
      injection e with e
      injection e with e
      have:h.n≤B1.n:=hB1.le
      omega
    · show (if sb=sb then _ else _)=_;rw [if_pos rfl]
    · show (if wb=sb then _ else B3.m wb)=_;rw [if_neg hne];exact hB3.up _ _ hwb0
    · show (if r0=sb then _ else B3.m r0)=_;rw [if_neg hne2];exact hB3.up _ _ hrow0
    · exact Nat.le_trans s0.rw (Nat.le_trans hold1.1 hr0)
    · intro a ha
      injection ha with ha
      rw [← ha]
      exact ⟨Nat.le_trans hold1.1 hr0,id⟩
  have hsln:(emptyS (bl.length:Int)).length=(bl.length+63) / 64:=by rw [emptyS_length];omega
  with_reducible apply W.seq
  with_reducible apply W.block
  refine W.loopN (X:=Nat × SetS × List Int) (fun x=>[(0,.pointer (some ⟨fb,0,none⟩)),(3,.slice (some ⟨sb,0,none⟩) (emptyS (bl.length:Int)).length (emptyS (bl.length:Int)).length),(4,.pointer (some ⟨wb,0,none⟩))])
    (fun x B=>ReachI h (emptyS (bl.length:Int)).length sb wb (fun _=>False) x.2.1 x.2.2 B∧(∀ k∈x.2.2,0≤k∧k < bl.length)∧(x.2.2.length+lackS bl.length x.2.1≤x.1∧x.1≤2 * bl.length+2)∧reachGo bl x.1 x.2.1 x.2.2=reachedS bl) (fun x=>x.1)
    (fun B' a=>⟨(2 * bl.length+2,putS (emptyS (bl.length:Int)) 0,[0]),?_,hI0.up sH3.dom a.oldH,?_,?_,?_⟩) ?_
  · (repeat' (first|exact trivial|exact rfl|apply And.intro));done
  · intro k hk
    simp only [List.mem_singleton] at hk
    omega
  · have:lackS bl.length (putS (emptyS (bl.length:Int)) 0)≤bl.length:=by
      unfold lackS
      exact Nat.le_trans (List.length_filter_le _ _) (by simp)
    simp only [List.length_singleton]
    exact ⟨by omega,Nat.le_refl _⟩
  · show reachGo bl (2 * bl.length+2) _ [0]=reachedS bl
    unfold reachedS
    rw [if_neg (by omega)]
  · rintro ⟨m,s,work⟩ B π sB ⟨hI,hwk,⟨hm,hmm⟩,hgo⟩
    dsimp only at hI hwk hm hmm hgo ⊢
    have hd2:=sB.dom
    obtain ⟨A0,cap,hW,hstk,hA0⟩:=hI.stk
    have hWn:=hd2 _ _ hW
    have hsl:=hI.hl
    cases work with
    | nil =>
      rw [List.length_nil] at hW
      have hfin:s=reachedS bl:=by rw [← hgo];cases m<;>rfl
      repeat (first|((with_reducible apply RS.load1B);(iterate 3 exact rfl);exact hW;exact hWn;exact rfl)|((with_reducible first|apply RS.move|apply RS.assign|apply RS.lenSl);iterate 3 exact rfl)|((with_reducible apply RS.cmpF);(iterate 4 exact rfl);(simp only [cmpN];omega))|((with_reducible apply RS.nil);exact mixed;kernel_rfl)|(with_reducible first|apply W.seq|apply W.exit|apply W.ret|apply thenK_n|apply thenK_e|apply roundN_e)|((with_reducible apply W.reg);kernel_rfl)|((with_reducible apply W.condF);kernel_rfl;exact rfl)|((with_reducible apply blockK_hit);exact rfl))
      refine endsK_ret _ (.cons (.tmp rfl) .nil) fun B' a=>⟨some ⟨sb,0,none⟩,_,by rw [← hsl,hfin];rfl,by rw [← hfin];exact .some (a.up _ _ hI.hs) hsbr,hI.old.trans a.oldH,fun a ha=>?_⟩
      injection ha with ha
      rw [← ha]
      exact Nat.le_trans hB1.le hsb
    | cons n rest =>
      rw [List.length_cons] at hW
      rw [intsV_cons] at hstk
      obtain ⟨hn0',hn1'⟩:=hwk n (by simp)
      have hrl:(intsV rest).length≤1000000000:=by rw [intsV_length];simp only [List.length_cons] at hm;omega
      obtain ⟨m',rfl⟩:∃ m',m=m'+1:=⟨m - 1,by simp at hm;omega⟩
      ((with_reducible apply W.seq);repeat (fail))
      ((with_reducible apply W.seq);repeat (first|((with_reducible apply RS.load1B);(iterate 3 exact rfl);exact hW;exact hWn;exact rfl)|((with_reducible apply RS.cmpT);(iterate 4 exact rfl);(simp only [cmpP];omega))|((with_reducible apply RS.lenSl);iterate 3 exact rfl)|((with_reducible apply RS.nil);exact mixed;kernel_rfl)|((with_reducible apply W.reg);kernel_rfl)|(with_reducible first|apply W.block|apply W.skip|apply thenK_n)|((with_reducible apply W.condT);kernel_rfl;exact rfl)))
      ((with_reducible apply W.seq);repeat (first|((with_reducible apply RS.callEx);(iterate 3 exact rfl);intro B4 hB4;refine ⟨_,pop_ex wb A0 cap (intsV rest) n hrl B4 (by rw [intsV_length];exact hB4.up _ _ hW) hwr (hstk.up hB4.up),?_⟩;rintro v H4 π4 ⟨rfl,hW4,hstk4,ho4⟩ sH4 hle4)|((with_reducible apply RS.assign);iterate 3 exact rfl)|((with_reducible apply RS.nil);exact mixed;kernel_rfl)|((with_reducible apply W.reg);kernel_rfl)|(with_reducible apply thenK_n)))
      have hwn:h.n≤wb:=Nat.le_trans hold1.1 hw0
      have hsn:h.n≤sb:=Nat.le_trans hB1.le hsb
      have old4:Old h H4:=((hI.old.trans hB4.oldH).off.same (ho4.mono (T:=fun i=>i=wb) fun _ _ e=>e)).old fun i hi e=>by subst e;omega
      have hs4:H4.m sb=some ⟨⟨setC s⟩,90⟩:=by
        rw [ho4.2 sb (hB4.sat.dom _ _ (hB4.up _ _ hI.hs)) (fun e=>by
          have:=hI.hs
          rw [e,hW] at this
          simp at this)]
        exact hB4.up _ _ hI.hs
      have hf4:=hf.up (old4.up hd)
      obtain ⟨fcs',hF,_,h5⟩:=hf4.hf
      have hFn:=sH4.dom _ _ hF
      have hnat:n=(n.toNat:Int):=by omega
      have hnl:n.toNat < bl.length:=by omega
      obtain ⟨b,hb⟩:∃ b,bl[n.toNat]?=some b:=⟨_,List.getElem?_eq_getElem hnl⟩
      obtain ⟨bb,off,cs,e,rfl,hG,hGl,hGb⟩:=hf4.sl.get _ b hb
      have hGn:=sH4.dom _ _ hG
      obtain ⟨Ai,ci,hGb,_⟩:=hGb
      have hGv:takeV (off+n.toNat * 9+1) 8 cs=termC b.term:=takeV_part (n:=8) hGb (by decide)
      replace hGl:off+n.toNat * 9+1+8≤cs.length:=by omega
      ((with_reducible apply W.seq);repeat (first|((with_reducible apply RS.load1B);(iterate 3 exact rfl);exact hF;exact hFn;first|exact h5|exact h3)|((with_reducible apply RS.indexAddrS);(iterate 4 exact rfl);exact hnat;omega)|((with_reducible apply RS.loadNB);(iterate 3 exact rfl);exact hG;exact hGn;exact hGl;exact hGv)|((with_reducible apply RS.callEx);(iterate 3 exact rfl);intro B5 hB5;refine ⟨_,next_ex b.term B5,?_⟩;rintro v H5 π5 ⟨AL,cL,rfl,hrow,ho5,hnewL⟩ sH5 hle5)|((with_reducible first|apply RS.nilCheck|apply RS.move|apply RS.lenSl|apply RS.fieldAddr);iterate 3 exact rfl)|((with_reducible apply RS.nil);exact mixed;kernel_rfl)|((with_reducible apply W.reg);kernel_rfl)|(with_reducible first|apply W.block|apply thenK_n)))
      have old5:Old H4 H5:=hB5.oldH.trans ho5
      have hWn4:=sH4.dom _ _ hW4
      have hJ0:ReachI h (emptyS (bl.length:Int)).length sb wb (SN AL) s rest H5:=by
        refine ⟨old4.trans old5,old5.up sH4.dom _ _ hs4,hsl,A0,cap,?_,hstk4.up (old5.up sH4.dom),fun a ha=>⟨(hA0 a ha).1,fun hx=>?_⟩⟩
        · have:=old5.up sH4.dom _ _ hW4
          rwa [intsV_length] at this
        · obtain ⟨r,t,hr1,hr2,_⟩:=stk_lt hstk (by simp)
          rw [ha] at hr1
          injection hr1 with hr1
          subst hr1
          have h1:=hnewL _ hx
          have h2:r < B4.n:=hB4.dom _ _ (hB4.up _ _ hr2)
          have h3:H4.n≤B5.n:=hB5.le
          simp only at h1
          omega
      generalize hl:nextS b.term=l at *
      have hlk:∀ k∈l,0≤k∧k < bl.length:=fun k hk=>htg b (List.mem_of_getElem? hb) k (by rw [hl];exact hk)
      have hll:l.length≤2:=by
        rw [← hl]
        unfold nextS
        repeat' split
        all_goals simp
      have hnext:nextAt bl n=l:=by unfold nextAt;rw [hb];exact hl
      refine W.loopN (X:=Nat × SetS × List Int) (fun x=>[(0,.pointer (some ⟨fb,0,none⟩)),(3,.slice (some ⟨sb,0,none⟩) (emptyS (bl.length:Int)).length (emptyS (bl.length:Int)).length),(4,.pointer (some ⟨wb,0,none⟩)),(36,.slice AL l.length cL),(37,.int .i64 (l.length:Int)),(38,.int .i64 (x.1:Int))])
        (fun x B=>x.1≤l.length∧ReachI h (emptyS (bl.length:Int)).length sb wb (SN AL) x.2.1 x.2.2 B∧IntAt B AL l∧(∀ k∈x.2.2,0≤k∧k < bl.length)∧x.2.2.length+lackS bl.length x.2.1≤m'∧reachPush s rest l=reachPush x.2.1 x.2.2 (l.drop x.1)) (fun x=>l.length - x.1)
        (fun B' a=>⟨(0,s,rest),?_,by simp,hJ0.up sH5.dom a.oldH,hrow.up a.up,fun k hk=>hwk k (by simp [hk]),?_,rfl⟩) ?_
      · (repeat' (first|exact trivial|exact rfl|apply And.intro));done
      · simp only [List.length_cons] at hm ⊢
        omega
      · rintro ⟨j,s1,w1⟩ B8 π8 sB8 ⟨hj,hJ,hIn,hwk1,hm1,hpush⟩
        dsimp only at hj hJ hIn hwk1 hm1 hpush ⊢
        by_cases hjl:j < l.length
        · obtain ⟨k,hk⟩:∃ k,l[j]?=some k:=⟨_,List.getElem?_eq_getElem hjl⟩
          rcases hIn with hIn|⟨nr,rfl,hR⟩
          · rw [hIn] at hjl;exact absurd hjl (Nat.not_lt_zero _)
          have hRn:=sB8.dom _ _ hR
          have hRv:(l.map (Value.int .i64))[0+j * 1]?=some (.int .i64 k):=by simp [hk]
          obtain ⟨hk0,hk1⟩:=hlk k (List.mem_of_getElem? hk)
          have hkf:fitI k:=by unfold fitI;omega
          have hsl1:s1.length≤1000000000:=by rw [hJ.hl,hsln];omega
          have hs1':SetAt B8 (some ⟨sb,0,none⟩) s1:=.some hJ.hs hsbr
          have hdrop:l.drop j=k::l.drop (j+1):=by
            obtain ⟨h1,h2⟩:=List.getElem?_eq_some_iff.1 hk
            rw [List.drop_eq_getElem_cons h1,h2]
          rw [hdrop] at hpush
          obtain ⟨A1,cap1,hW1,hst1,hA1⟩:=hJ.stk
          rw [← intsV_length w1] at hW1
          have hneW:A1≠some ⟨wb,0,none⟩:=stk_ne hst1 hW1 (by simp)
          have hneN:A1≠some ⟨nr,0,none⟩:=fun e=>(hA1 _ e).2 rfl
          have hneS:A1≠some ⟨sb,0,none⟩:=stk_ne hst1 hJ.hs (by simp)
          rw [← hJ.hl]
          repeat' (first|((with_reducible apply RS.load1B);(iterate 3 exact rfl);exact hR;exact hRn;exact hRv)|((with_reducible apply RS.indexAddrS);(iterate 5 exact rfl);omega)|((with_reducible apply RS.callA);(iterate 3 exact rfl);exact fun B6 hB6=>has_tf s1 _ _ k hkf hsl1 B6 (setAt_up hs1' hB6.up))|((with_reducible apply RS.buildSlice);iterate 8 exact rfl)|((with_reducible apply RS.callEx);(iterate 3 exact rfl);intro B6 hB6;refine ⟨_,TF.ex (put_tf s1 _ _ k hkf hsl1 B6 (setAt_up hs1' hB6.up)),?_⟩;rintro v H6 π6 ⟨rfl,rfl⟩ sH6 hle6;have hs6:=setAt_up hs1' hB6.up;have hW6:=setH_keep (s':=putS s1 k) hs6 (hB6.up _ _ hW1) (by simp);have hW6n:=sH6.dom _ _ hW6;have hst6:=setH_stk (s':=putS s1 k) hs6 (hst1.up hB6.up))|((with_reducible apply RS.load1B);(iterate 3 exact rfl);exact hW6;exact hW6n;exact rfl)|((with_reducible apply RS.pushStk (vs:=intsV w1));(iterate 5 exact rfl);exact fun B hB=>⟨hB.loc 0 (Nat.lt_succ_self 0),hst6.up hB.up⟩;exact rfl;(simp only [intsV_length];omega);(simp only [intsV_length];omega);intro B7 hB7 A7 cap7 H7 π7 sH7 hst7 hle7 hoff7 hA7;have hW7:=(hoff7 wb (hB7.dom _ _ (hB7.up _ _ hW6)) hneW).trans (hB7.up _ _ hW6);have hW7n:=sH7.dom _ _ hW7)|((with_reducible apply RS.storeB);(iterate 3 exact rfl);exact hW7;exact hW7n;exact hwr;exact Nat.le_of_ble_eq_true rfl;iterate 3 exact rfl)|((with_reducible first|apply RS.move|apply RS.assign|apply RS.not);iterate 3 exact rfl)|((with_reducible apply RS.cmpT);(iterate 4 exact rfl);(simp only [cmpP];omega))|((with_reducible apply RS.add1);(iterate 4 exact rfl);omega)|((with_reducible apply RS.nil);exact mixed;kernel_rfl)|(with_reducible first|apply W.seq|apply W.block|apply W.skip|apply thenK_n|apply blockK_n)|((with_reducible apply W.reg);kernel_rfl)|((with_reducible apply W.condT);kernel_rfl;exact rfl)|(((with_reducible apply RS.splitD);iterate 2 exact rfl)<;>intro _)|((((with_reducible apply RS.splitG);iterate 2 exact rfl)<;>intro _)<;>(fail_if_success cases ‹true=false›)<;>(fail_if_success cases ‹false=true›))|(((with_reducible apply W.condD);exact rfl)<;>intro _)|((((with_reducible apply W.cond);exact rfl)<;>intro _)<;>(fail_if_success cases ‹true=false›)<;>(fail_if_success cases ‹false=true›)))
          · have hput:(putS s1 k).length=s1.length:=putS_length _ _
            have hno:hasS s1 k=false:=by simpa using ‹(!hasS s1 k)=true›
            have hnrw:nr≠wb:=by
              intro e
              subst e
              rw [hR] at hW1
              simp at hW1
            have hsbw:sb≠wb:=by
              intro e
              have:=hJ.hs
              rw [e,hW1] at this
              simp at this
            have h8:B8.n≤B7.n:=Nat.le_trans hB6.le hB7.le
            refine roundN_n rfl fun B' a=>⟨(j+1,putS s1 k,k::w1),?_,⟨by omega,⟨?_,?_,hput,A7,cap7,?_,?_,?_⟩,?_,?_,?_,?_⟩,by omega⟩
            · (repeat' (first|exact trivial|exact rfl|apply And.intro));done
            · have o1:OffS (fun i=>h.n≤i) h B7:=((hJ.old.trans hB6.oldH).off.same ((setH_off hs6).mono fun i _ e=>by
                have e:some _=some _:=e
                injection e with e
                injection e with e
                rw [← e];exact hsn)).same hB7.oldH.off
              have o2:OffS (fun i=>h.n≤i) B7 H7:=⟨hle7,fun i hi hn=>hoff7 i hi fun e=>hn (hA1 _ e).1⟩
              have o3:OffS (fun i=>h.n≤i) H7 B':=((OffS.set H7 wb _).mono fun i _ e=>by rw [e];exact hwn).same a.oldH.off
              exact ((o1.same o2).same o3).old fun i hi hn=>by omega
            · refine a.up _ _ ?_
              show (if sb=wb then _ else H7.m sb)=_
              have hs6':(setH B6 (some ⟨sb,0,none⟩) (putS s1 k)).m sb=some ⟨⟨setC (putS s1 k)⟩,90⟩:=by show (if sb=sb then _ else _)=_;rw [if_pos rfl]
              have hs7:=hB7.up _ _ hs6'
              rw [if_neg hsbw,hoff7 sb (hB7.dom _ _ hs7) hneS]
              exact hs7
            · refine a.up _ _ ?_
              show (if wb=wb then _ else H7.m wb)=_
              rw [if_pos rfl,intsV_length];rfl
            · rw [intsV_cons]
              have hst8:StkRow (H7.set wb ⟨⟨[.slice A7 ((intsV w1).length+1) cap7]⟩,34⟩) 3 A7 cap7 (intsV w1++[.int .i64 k]):=by
                obtain ⟨r,t,rfl,hr1,hr2,hr3⟩:=stk_lt hst7 (by simp)
                refine .row (t:=t) ?_ hr2 hr3
                have hrw:r≠wb:=by
                  intro e
                  subst e
                  rw [hW7] at hr1
                  simp at hr1
                show (if r=wb then _ else H7.m r)=_
                rw [if_neg hrw];exact hr1
              exact hst8.up a.up
            · intro a' ha'
              rcases hA7 a' ha' with e|e
              · exact hA1 _ e
              · refine ⟨Nat.le_trans hJ.old.1 (Nat.le_trans h8 e),fun hx=>?_⟩
                have hx:some _=some _:=hx
                injection hx with hx
                injection hx with hx
                omega
            · refine .inr ⟨nr,rfl,a.up _ _ ?_⟩
              show (if nr=wb then _ else H7.m nr)=_
              have hr7:=hB7.up _ _ (setH_keep (s':=putS s1 k) hs6 (hB6.up _ _ hR) (by simp))
              rw [if_neg hnrw,hoff7 nr (hB7.dom _ _ hr7) hneN]
              exact hr7
            · intro k' hk'
              rcases List.mem_cons.1 hk' with e|e
              · rw [e];exact ⟨hk0,hk1⟩
              · exact hwk1 k' e
            · have:=lackS_put (n:=bl.length) hk0 hk1 hno (by rw [hJ.hl,hsln];omega)
              simp only [List.length_cons]
              omega
            · rw [hpush,reachPush,if_neg (by rw [hno];simp)]
          · refine roundN_n rfl fun B' a=>⟨(j+1,s1,w1),?_,⟨by omega,?_,?_,hwk1,hm1,?_⟩,by omega⟩
            · (repeat' (first|exact trivial|exact rfl|apply And.intro));done
            · rw [hJ.hl];exact hJ.up sB8.dom a.oldH
            · exact .inr ⟨nr,rfl,a.up _ _ hR⟩
            · rw [hpush,reachPush,if_pos (by simpa using ‹(!hasS s1 k)=false›)]
        · have hjj:l.drop j=[]:=List.drop_eq_nil_of_le (by omega)
          rw [hjj] at hpush
          repeat (first|((with_reducible apply RS.cmpF);(iterate 4 exact rfl);(simp only [cmpN];omega))|((with_reducible apply RS.nil);exact mixed;kernel_rfl)|(with_reducible first|apply W.seq|apply W.exit|apply thenK_n|apply thenK_e|apply blockK_n|apply roundN_e)|((with_reducible apply W.reg);kernel_rfl)|((with_reducible apply W.condF);kernel_rfl;exact rfl)|((with_reducible apply blockK_hit);exact rfl))
          refine roundN_n rfl fun B' a=>⟨(m',s1,w1),?_,⟨?_,hwk1,⟨hm1,by omega⟩,?_⟩,by omega⟩
          · (repeat' (first|exact trivial|exact rfl|apply And.intro));done
          · obtain ⟨A1,cap1,hW1,hst1,hA1⟩:=hJ.stk
            exact ⟨hJ.old.trans a.oldH,a.up _ _ hJ.hs,hJ.hl,A1,cap1,a.up _ _ hW1,hst1.up a.up,fun a ha=>⟨(hA1 a ha).1,id⟩⟩
          · rw [← hgo,reachGo,hnext,hpush];rfl
end Go.Proofs.YtjhloakacicdiaaDoor
namespace Go.Proofs.YtjhloakacicdiaaDoor
open Go.AH
attribute [local irreducible] W RS
theorem throughGo_ok {bl:List BlockS} (ht:tgtOK bl):∀ (n:Nat) (k:Int),0≤k∧k < bl.length→0≤throughGo bl n k∧throughGo bl n k < bl.length:=by
  intro n
  induction n with
  | zero=>intro k hk;exact hk
  | succ n ih =>
    intro k hk
    unfold throughGo
    split
    · rename_i b hb
      split
      · exact hk
      · rename_i hc
        rw [not_or] at hc
        refine ih _ (ht b (List.mem_of_getElem? hb) _ ?_)
        unfold nextS
        rw [if_pos (by omega)]
        simp
    · exact hk
set_option maxRecDepth 100000 in
theorem through_tf (fb:Nat) (regs:Int) (A:Option Addr) (c:Nat) (bl:List BlockS) (k0:Int) (hk0:0≤k0∧k0 < bl.length) (hlen:bl.length≤100000) (hins:∀ b∈bl,b.ins.length≤1000000) (htg:tgtOK bl) (h:Hp) (hf:FAt h fb regs A c bl) :
    TF Tryd.prog 51 ⟨[.pointer (some ⟨fb,0,none⟩),.int .i64 k0]⟩ h (.int .i64 (throughS bl k0)) h:=by
  refine TF.exact (fn:=Tryd.f51) (c:=(Tryd.f51.body.getD .skip)) Tryd.func51 (by kernel_rfl) Tryd.ntmps51 (by kernel_rfl) (fun s0=>⟨Nat.le_refl _,by simp,fun i b hb=>⟨s0.dom i b hb,s0.bd i b hb⟩⟩) fun π s0=>?_
  conv=>arg 2;whnf
  have hd:=s0.dom
  obtain ⟨fcs,hF,_,h5⟩:=hf.hf
  have hFn:=s0.dom _ _ hF
  repeat (first|((with_reducible apply RS.load1B);(iterate 3 exact rfl);exact hF;exact hFn;exact h5)|((with_reducible first|apply RS.nilCheck|apply RS.move|apply RS.assign|apply RS.lenSl|apply RS.fieldAddr);iterate 3 exact rfl)|((with_reducible apply RS.nil);exact mixed;kernel_rfl)|(with_reducible first|apply W.seq|apply W.block|apply thenK_n)|((with_reducible apply W.reg);kernel_rfl))
  refine W.loopN (X:=Nat × Int) (fun x=>[(0,.pointer (some ⟨fb,0,none⟩)),(1,.int .i64 x.2),(10,.int .i64 (bl.length:Int)),(11,.int .i64 (x.1:Int))])
    (fun x B=>Old h B∧x.1≤bl.length∧(0≤x.2∧x.2 < bl.length)∧throughGo bl (bl.length - x.1) x.2=throughS bl k0) (fun x=>bl.length - x.1) (fun B' a=>⟨(0,k0),?_,a.oldH,by simp,hk0,rfl⟩) ?_
  · (repeat' (first|exact trivial|exact rfl|apply And.intro));done
  · rintro ⟨i,k⟩ B π sB ⟨hold,hi,⟨hk,hk2⟩,hgo⟩
    dsimp only at hold hi hk hk2 hgo ⊢
    have hf4:=hf.up (hold.up hd)
    obtain ⟨fcs',hF,_,h5⟩:=hf4.hf
    have hFn:=sB.dom _ _ hF
    by_cases hlt:i < bl.length
    · have hnat:k=(k.toNat:Int):=by omega
      have hnl:k.toNat < bl.length:=by omega
      obtain ⟨b,hb⟩:∃ b,bl[k.toNat]?=some b:=⟨_,List.getElem?_eq_getElem hnl⟩
      obtain ⟨bb,off,cs,e,rfl,hG,hGl,hGb⟩:=hf4.sl.get _ b hb
      have hGn:=sB.dom _ _ hG
      obtain ⟨Ai,ci,hGb,_⟩:=hGb
      have hbi:=hins b (List.mem_of_getElem? hb)
      obtain ⟨m,hm⟩:∃ m,bl.length - i=m+1:=⟨bl.length - i - 1,by omega⟩
      rw [hm,throughGo,hb] at hgo
      simp only at hgo
      by_cases hc:b.ins.length > 0∨b.term.kind≠1
      · rw [if_pos hc] at hgo
        repeat' (first|((with_reducible apply RS.load1B);(iterate 3 exact rfl);exact hF;exact hFn;exact h5)|((with_reducible apply RS.indexAddrS);(iterate 4 exact rfl);exact hnat;omega)|((with_reducible apply RS.loadNB);(iterate 3 exact rfl);exact hG;exact hGn;exact hGl;exact hGb)|((with_reducible first|apply RS.nilCheck|apply RS.move|apply RS.assign|apply RS.lenSl|apply RS.fieldAddr);iterate 3 exact rfl)|((with_reducible apply RS.pickT);iterate 4 exact rfl)|((with_reducible apply RS.pickF);iterate 4 exact rfl)|((with_reducible apply RS.cmpT);(iterate 4 exact rfl);(simp only [cmpP];omega))|((with_reducible apply RS.cmpC);iterate 5 exact rfl)|((with_reducible apply RS.load1);iterate 6 exact rfl)|((with_reducible apply RS.store);(iterate 5 exact rfl);exact Nat.le_of_ble_eq_true rfl;iterate 3 exact rfl)|((with_reducible apply RS.alloc);iterate 2 exact rfl)|((with_reducible apply RS.skip);iterate 2 exact rfl)|((with_reducible apply RS.nil);exact mixed;kernel_rfl)|(with_reducible first|apply W.seq|apply W.block|apply W.exit|apply W.ret|apply W.skip|apply thenK_n|apply thenK_e|apply roundN_e)|((with_reducible apply W.reg);kernel_rfl)|((with_reducible apply W.condT);kernel_rfl;exact rfl)|((with_reducible apply blockK_hit);exact rfl)|((with_reducible apply blockK_miss);exact rfl)|(((with_reducible apply RS.splitD);iterate 2 exact rfl)<;>intro _)|((((with_reducible apply RS.splitG);iterate 2 exact rfl)<;>intro _)<;>(fail_if_success cases ‹true=false›)<;>(fail_if_success cases ‹false=true›))|(((with_reducible apply W.condD);exact rfl)<;>intro _)|((((with_reducible apply W.cond);exact rfl)<;>intro _)<;>(fail_if_success cases ‹true=false›)<;>(fail_if_success cases ‹false=true›)))
        all_goals first
          | exact endsK_ret _ (.cons (.tmp rfl) .nil) fun B' a=>⟨by rw [← hgo];rfl,fun j x hj=>a.up _ _ (hold.up hd _ _ hj)⟩
          | (exfalso;omega)
      · rw [if_neg hc] at hgo
        rw [not_or] at hc
        obtain ⟨hc1,hc2⟩:=hc
        have hmn:m=bl.length - (i+1):=by omega
        have htk:=htg b (List.mem_of_getElem? hb) b.term.goto (by unfold nextS;rw [if_pos (by omega)];simp)
        repeat (first|((with_reducible apply RS.load1B);(iterate 3 exact rfl);exact hF;exact hFn;exact h5)|((with_reducible apply RS.indexAddrS);(iterate 4 exact rfl);exact hnat;omega)|((with_reducible apply RS.loadNB);(iterate 3 exact rfl);exact hG;exact hGn;exact hGl;exact hGb)|((with_reducible first|apply RS.nilCheck|apply RS.move|apply RS.assign|apply RS.lenSl|apply RS.fieldAddr);iterate 3 exact rfl)|((with_reducible apply RS.pickF);iterate 4 exact rfl)|((with_reducible apply RS.cmpT);(iterate 4 exact rfl);(simp only [cmpP];omega))|((with_reducible apply RS.cmpF);(iterate 4 exact rfl);(simp only [cmpN];omega))|((with_reducible apply RS.add1);(iterate 4 exact rfl);omega)|((with_reducible apply RS.load1);iterate 6 exact rfl)|((with_reducible apply RS.store);(iterate 5 exact rfl);exact Nat.le_of_ble_eq_true rfl;iterate 3 exact rfl)|((with_reducible apply RS.alloc);iterate 2 exact rfl)|((with_reducible apply RS.nil);exact mixed;kernel_rfl)|(with_reducible first|apply W.seq|apply W.block|apply W.skip|apply thenK_n|apply blockK_n)|((with_reducible apply W.reg);kernel_rfl)|((with_reducible apply W.condT);kernel_rfl;exact rfl)|((with_reducible apply W.condF);kernel_rfl;exact rfl))
        repeat' ((first|(((with_reducible apply RS.splitD);iterate 2 exact rfl)<;>intro _)|((((with_reducible apply RS.splitG);iterate 2 exact rfl)<;>intro _)<;>(fail_if_success cases ‹true=false›)<;>(fail_if_success cases ‹false=true›))|(((with_reducible apply W.condD);exact rfl)<;>intro _)|((((with_reducible apply W.cond);exact rfl)<;>intro _)<;>(fail_if_success cases ‹true=false›)<;>(fail_if_success cases ‹false=true›)))<;>repeat (fail))
        all_goals first
          | (refine roundN_n rfl fun B' a=>⟨(i+1,b.term.goto),?_,⟨hold.trans a.oldH,by omega,htk,by rw [← hmn];exact hgo⟩,by omega⟩;(repeat' (first|exact trivial|exact rfl|apply And.intro));done)
          | (exfalso;omega)
    · have hz:bl.length - i=0:=by omega
      rw [hz,throughGo] at hgo
      repeat (first|((with_reducible first|apply RS.move|apply RS.assign);iterate 3 exact rfl)|((with_reducible apply RS.cmpF);(iterate 4 exact rfl);(simp only [cmpN];omega))|((with_reducible apply RS.nil);exact mixed;kernel_rfl)|(with_reducible first|apply W.seq|apply W.exit|apply W.ret|apply thenK_n|apply thenK_e|apply roundN_e)|((with_reducible apply W.reg);kernel_rfl)|((with_reducible apply W.condF);kernel_rfl;exact rfl)|((with_reducible apply blockK_hit);exact rfl))
      exact endsK_ret _ (.cons (.tmp rfl) .nil) fun B' a=>⟨by rw [← hgo];rfl,fun j x hj=>a.up _ _ (hold.up hd _ _ hj)⟩
theorem countAt_drop {r:SetS} {k:Int}:∀ {bl:List BlockS} {i j:Nat} {b:BlockS},bl[i]?=some b→countAt r k j (bl.drop i)=(if hasS r (j:Int)=true then (nextS b.term).count k else 0)+countAt r k (j+1) (bl.drop (i+1)):=by
  intro bl i j b hb
  obtain ⟨h1,h2⟩:=List.getElem?_eq_some_iff.1 hb
  rw [List.drop_eq_getElem_cons h1,h2]
  rfl
theorem nextS_len (t:TermS):(nextS t).length≤2:=by
  unfold nextS
  repeat' split
  all_goals simp
theorem countAt_le {r:SetS} {k:Int}:∀ {bl:List BlockS} {j:Nat},countAt r k j bl≤2 * bl.length:=by
  intro bl
  induction bl with
  | nil=>intro j;simp [countAt]
  | cons b bl ih =>
    intro j
    have h1:=ih (j:=j+1)
    have h2:(nextS b.term).count k≤2:=Nat.le_trans (List.count_le_length) (nextS_len _)
    rw [countAt,List.length_cons]
    split<;>omega
set_option maxRecDepth 100000 in
theorem count_tf (fb:Nat) (regs:Int) (A:Option Addr) (c:Nat) (bl:List BlockS) (r:SetS) (Ar:Option Addr) (cr:Nat) (k:Int) (hlen:bl.length≤100000) (hrl:r.length≤1000000000) (h:Hp) (hf:FAt h fb regs A c bl) (hr:SetAt h Ar r) :
    TF Tryd.prog 72 ⟨[.pointer (some ⟨fb,0,none⟩),.slice Ar r.length cr,.int .i64 k]⟩ h (.int .i64 (countS bl r k:Int)) h:=by
  refine TF.exact (fn:=Tryd.f72) (c:=(Tryd.f72.body.getD .skip)) Tryd.func72 (by kernel_rfl) Tryd.ntmps72 (by kernel_rfl) (fun s0=>⟨Nat.le_refl _,by simp,fun i b hb=>⟨s0.dom i b hb,s0.bd i b hb⟩⟩) fun π s0=>?_
  conv=>arg 2;whnf
  have hd:=s0.dom
  obtain ⟨fcs,hF,_,h5⟩:=hf.hf
  have hFn:=s0.dom _ _ hF
  repeat (first|((with_reducible apply RS.load1B);(iterate 3 exact rfl);exact hF;exact hFn;exact h5)|((with_reducible first|apply RS.nilCheck|apply RS.move|apply RS.assign|apply RS.lenSl|apply RS.fieldAddr);iterate 3 exact rfl)|((with_reducible apply RS.nil);exact mixed;kernel_rfl)|(with_reducible first|apply W.seq|apply W.block|apply thenK_n)|((with_reducible apply W.reg);kernel_rfl))
  refine W.loopN (X:=Nat × Nat) (fun x=>[(1,.slice Ar r.length cr),(2,.int .i64 k),(7,.int .i64 (x.2:Int)),(15,.slice A bl.length c),(16,.int .i64 (bl.length:Int)),(17,.int .i64 (x.1:Int))])
    (fun x B=>Old h B∧x.1≤bl.length∧x.2+countAt r k x.1 (bl.drop x.1)=countS bl r k) (fun x=>bl.length - x.1) (fun B' a=>⟨(0,0),?_,a.oldH,by simp,by simp [countS]⟩) ?_
  · (repeat' (first|exact trivial|exact rfl|apply And.intro));done
  · rintro ⟨i,n⟩ B π sB ⟨hold,hi,hgo⟩
    dsimp only at hold hi hgo ⊢
    have hf4:=hf.up (hold.up hd)
    have hrB:=setAt_up hr (hold.up hd)
    by_cases hlt:i < bl.length
    · obtain ⟨b,hb⟩:∃ b,bl[i]?=some b:=⟨_,List.getElem?_eq_getElem hlt⟩
      obtain ⟨bb,off,cs,e,rfl,hG,hGl,hGb⟩:=hf4.sl.get _ b hb
      have hGn:=sB.dom _ _ hG
      obtain ⟨Ai,ci,hGb,_⟩:=hGb
      rw [countAt_drop hb] at hgo
      have hif:fitI (i:Int):=by unfold fitI;omega
      ((with_reducible apply W.seq);repeat (first|((with_reducible apply RS.cmpT);(iterate 4 exact rfl);(simp only [cmpP];omega))|((with_reducible apply RS.nil);exact mixed;kernel_rfl)|((with_reducible apply W.reg);kernel_rfl)|(with_reducible apply thenK_n)))
      ((with_reducible apply W.seq);repeat (first|(with_reducible first|apply W.skip|apply thenK_n)|((with_reducible apply W.condT);kernel_rfl;exact rfl)))
      ((with_reducible apply W.seq);repeat (first|(with_reducible apply W.block)))
      ((with_reducible apply W.seq);repeat (first|((with_reducible apply RS.loadNB);(iterate 3 exact rfl);exact hG;exact hGn;exact hGl;exact hGb)|((with_reducible apply RS.indexAddrS);(iterate 5 exact rfl);omega)|((with_reducible first|apply RS.move|apply RS.assign);iterate 3 exact rfl)|((with_reducible apply RS.store);(iterate 5 exact rfl);exact Nat.le_of_ble_eq_true rfl;iterate 3 exact rfl)|((with_reducible apply RS.alloc);iterate 2 exact rfl)|((with_reducible apply RS.nil);exact mixed;kernel_rfl)|((with_reducible apply W.reg);kernel_rfl)|(with_reducible apply thenK_n)))
      refine W.absorbX fun B2 π2 a2=>?_
      have hq:B2.m (π 0)=some ⟨⟨blockC b Ai ci⟩,50⟩:=a2.loc 0 (Nat.lt_succ_self 0)
      have hold2:Old B B2:=a2.oldH
      generalize π 0=q at *
      have hqn:=a2.dom _ _ hq
      replace hrB:=setAt_up hrB (hold2.up sB.dom)
      cases hh:hasS r (i:Int) with
      | false =>
        rw [hh] at hgo
        simp only [Bool.false_eq_true,if_false,Nat.zero_add] at hgo
        repeat' (first|((with_reducible apply RS.callA);(iterate 3 exact rfl);exact fun B6 hB6=>has_tf r _ _ (i:Int) hif hrl B6 (setAt_up hrB hB6.up))|((with_reducible apply RS.callEx);(iterate 3 exact rfl);intro B5 hB5;refine ⟨_,next_ex b.term B5,?_⟩;rintro v H5 π5 ⟨AL,cL,rfl,hrow,ho5,hnewL⟩ sH5 hle5)|((with_reducible apply RS.loadNB);(iterate 3 exact rfl);exact hq;exact hqn;exact Nat.le_of_ble_eq_true rfl;exact rfl)|((with_reducible first|apply RS.move|apply RS.lenSl|apply RS.not|apply RS.fieldAddr);iterate 3 exact rfl)|((with_reducible apply RS.add1);(iterate 4 exact rfl);omega)|((with_reducible apply RS.nil);exact mixed;kernel_rfl)|(with_reducible first|apply W.seq|apply W.block|apply W.exit|apply W.skip|apply thenK_n|apply thenK_e)|((with_reducible apply W.reg);kernel_rfl)|((with_reducible apply blockK_hit);exact rfl)|(((with_reducible apply RS.splitD);iterate 2 exact rfl)<;>intro _)|((((with_reducible apply RS.splitG);iterate 2 exact rfl)<;>intro _)<;>(fail_if_success cases ‹true=false›)<;>(fail_if_success cases ‹false=true›))|(((with_reducible apply W.condD);exact rfl)<;>intro _)|((((with_reducible apply W.cond);exact rfl)<;>intro _)<;>(fail_if_success cases ‹true=false›)<;>(fail_if_success cases ‹false=true›)))
        all_goals first
          | exact absurd ‹(!hasS r (i:Int))=false› (by rw [hh];decide)
          | (refine roundN_n rfl fun B' a => ⟨(i + 1, n), ?_, ⟨(hold.trans hold2).trans a.oldH, by omega, hgo⟩, ?_⟩; · (repeat' (first | exact trivial | exact rfl | apply And.intro)); done
             · show bl.length - (i+1) < bl.length - i;omega)
      | true =>
        rw [hh] at hgo
        simp only [if_true] at hgo
        ((with_reducible apply W.seq);repeat (fail))
        ((with_reducible apply W.seq);repeat (first|((with_reducible apply RS.callA);(iterate 3 exact rfl);exact fun B6 hB6=>has_tf r _ _ (i:Int) hif hrl B6 (setAt_up hrB hB6.up))|((with_reducible first|apply RS.move|apply RS.not);iterate 3 exact rfl)|((with_reducible apply RS.nil);exact mixed;kernel_rfl)|((with_reducible apply W.reg);kernel_rfl)|(with_reducible apply thenK_n)))
        repeat' ((first|(((with_reducible apply RS.splitD);iterate 2 exact rfl)<;>intro _)|((((with_reducible apply RS.splitG);iterate 2 exact rfl)<;>intro _)<;>(fail_if_success cases ‹true=false›)<;>(fail_if_success cases ‹false=true›))|(((with_reducible apply W.condD);exact rfl)<;>intro _)|((((with_reducible apply W.cond);exact rfl)<;>intro _)<;>(fail_if_success cases ‹true=false›)<;>(fail_if_success cases ‹false=true›)))<;>repeat (first|((with_reducible apply RS.callEx);(iterate 3 exact rfl);intro B5 hB5;refine ⟨_,next_ex b.term B5,?_⟩;rintro v H5 π5 ⟨AL,cL,rfl,hrow,ho5,hnewL⟩ sH5 hle5)|((with_reducible apply RS.loadNB);(iterate 3 exact rfl);exact hq;exact hqn;exact Nat.le_of_ble_eq_true rfl;exact rfl)|((with_reducible first|apply RS.move|apply RS.lenSl|apply RS.fieldAddr);iterate 3 exact rfl)|((with_reducible apply RS.add1);(iterate 4 exact rfl);omega)|((with_reducible apply RS.nil);exact mixed;kernel_rfl)|(with_reducible first|apply W.seq|apply W.block|apply W.exit|apply W.skip|apply thenK_n|apply thenK_e)|((with_reducible apply W.reg);kernel_rfl)|((with_reducible apply blockK_hit);exact rfl)))
        · exact absurd ‹(!hasS r (i:Int))=true› (by rw [hh];decide)
        have hold5:Old h H5:=((hold.trans hold2).trans hB5.oldH).trans ho5
        generalize hl:nextS b.term=l at *
        have hll:l.length≤2:=by rw [← hl];exact nextS_len _
        have hnb:n≤200000:=by
          have h1:countS bl r k≤2 * bl.length:=countAt_le
          omega
        refine W.loopN (X:=Nat × Nat) (fun x=>[(1,.slice Ar r.length cr),(2,.int .i64 k),(7,.int .i64 (x.2:Int)),(15,.slice (some ⟨bb,off,none⟩) bl.length c),(16,.int .i64 (bl.length:Int)),(17,.int .i64 (i:Int)),(28,.slice AL l.length cL),(29,.int .i64 (l.length:Int)),(30,.int .i64 (x.1:Int))])
          (fun x B=>Old h B∧IntAt B AL l∧x.1≤l.length∧x.2+(l.drop x.1).count k=n+l.count k) (fun x=>l.length - x.1) (fun B' a=>⟨(0,n),?_,hold5.trans a.oldH,hrow.up a.up,by simp,rfl⟩) ?_
        · (repeat' (first|exact trivial|exact rfl|apply And.intro));done
        · rintro ⟨j,m⟩ B8 π8 sB8 ⟨hold8,hIn,hj,hcnt⟩
          dsimp only at hold8 hIn hj hcnt ⊢
          by_cases hjl:j < l.length
          · obtain ⟨k',hk'⟩:∃ k',l[j]?=some k':=⟨_,List.getElem?_eq_getElem hjl⟩
            rcases hIn with hIn|⟨nr,rfl,hR⟩
            · rw [hIn] at hjl;exact absurd hjl (Nat.not_lt_zero _)
            have hRn:=sB8.dom _ _ hR
            have hRv:(l.map (Value.int .i64))[0+j * 1]?=some (.int .i64 k'):=by simp [hk']
            have hdrop:l.drop j=k'::l.drop (j+1):=by
              obtain ⟨h1,h2⟩:=List.getElem?_eq_some_iff.1 hk'
              rw [List.drop_eq_getElem_cons h1,h2]
            have hmb:m≤300000:=by
              have:=List.count_le_length (a:=k) (l:=l)
              omega
            rw [hdrop,List.count_cons] at hcnt
            repeat' (first|((with_reducible apply RS.indexAddrS);(iterate 5 exact rfl);omega)|((with_reducible apply RS.load1B);(iterate 3 exact rfl);exact hR;exact hRn;exact hRv)|((with_reducible first|apply RS.move|apply RS.assign);iterate 3 exact rfl)|((with_reducible apply RS.cmpT);(iterate 4 exact rfl);(simp only [cmpP];omega))|((with_reducible apply RS.add1);(iterate 4 exact rfl);omega)|((with_reducible apply RS.bin);iterate 5 exact rfl)|((with_reducible apply RS.nil);exact mixed;kernel_rfl)|(with_reducible first|apply W.seq|apply W.block|apply W.skip|apply thenK_n|apply blockK_n)|((with_reducible apply W.reg);kernel_rfl)|((with_reducible apply W.condT);kernel_rfl;exact rfl)|(((with_reducible apply RS.splitD);iterate 2 exact rfl)<;>intro _)|((((with_reducible apply RS.splitG);iterate 2 exact rfl)<;>intro _)<;>(fail_if_success cases ‹true=false›)<;>(fail_if_success cases ‹false=true›))|(((with_reducible apply W.condD);exact rfl)<;>intro _)|((((with_reducible apply W.cond);exact rfl)<;>intro _)<;>(fail_if_success cases ‹true=false›)<;>(fail_if_success cases ‹false=true›)))
            · have hkk:k'=k:=‹k'=k›
              refine roundN_n rfl fun B' a=>⟨(j+1,m+1),?_,⟨hold8.trans a.oldH,.inr ⟨nr,rfl,a.up _ _ hR⟩,by omega,?_⟩,?_⟩
              · (repeat' (first|exact trivial|exact rfl|apply And.intro));done
              · show m+1+(l.drop (j+1)).count k=_
                rw [hkk] at hcnt
                simp at hcnt
                omega
              · show l.length - (j+1) < l.length - j
                omega
            · have hkk:¬ k'=k:=‹¬ k'=k›
              refine roundN_n rfl fun B' a=>⟨(j+1,m),?_,⟨hold8.trans a.oldH,.inr ⟨nr,rfl,a.up _ _ hR⟩,by omega,?_⟩,?_⟩
              · (repeat' (first|exact trivial|exact rfl|apply And.intro));done
              · show m+(l.drop (j+1)).count k=_
                simp [hkk] at hcnt
                omega
              · show l.length - (j+1) < l.length - j
                omega
          · have hz:l.drop j=[]:=List.drop_eq_nil_of_le (by omega)
            rw [hz,List.count_nil,Nat.add_zero] at hcnt
            repeat (first|((with_reducible apply RS.move);iterate 3 exact rfl)|((with_reducible apply RS.cmpF);(iterate 4 exact rfl);(simp only [cmpN];omega))|((with_reducible apply RS.add1);(iterate 4 exact rfl);omega)|((with_reducible apply RS.nil);exact mixed;kernel_rfl)|(with_reducible first|apply W.seq|apply W.exit|apply thenK_n|apply thenK_e|apply blockK_n|apply roundN_e)|((with_reducible apply W.reg);kernel_rfl)|((with_reducible apply W.condF);kernel_rfl;exact rfl)|((with_reducible apply blockK_hit);exact rfl))
            refine roundN_n rfl fun B' a=>⟨(i+1,m),?_,⟨hold8.trans a.oldH,by omega,by show m+countAt r k (i+1) (bl.drop (i+1))=_;omega⟩,?_⟩
            · (repeat' (first|exact trivial|exact rfl|apply And.intro));done
            · show bl.length - (i+1) < bl.length - i
              omega
    · have hz:bl.drop i=[]:=List.drop_eq_nil_of_le (by omega)
      rw [hz,countAt,Nat.add_zero] at hgo
      repeat (first|((with_reducible first|apply RS.move|apply RS.assign);iterate 3 exact rfl)|((with_reducible apply RS.cmpF);(iterate 4 exact rfl);(simp only [cmpN];omega))|((with_reducible apply RS.nil);exact mixed;kernel_rfl)|(with_reducible first|apply W.seq|apply W.exit|apply W.ret|apply thenK_n|apply thenK_e|apply roundN_e)|((with_reducible apply W.reg);kernel_rfl)|((with_reducible apply W.condF);kernel_rfl;exact rfl)|((with_reducible apply blockK_hit);exact rfl))
      exact endsK_ret _ (.cons (.tmp rfl) .nil) fun B' a=>⟨by rw [← hgo];rfl,fun j x hj=>a.up _ _ (hold.up hd _ _ hj)⟩
end Go.Proofs.YtjhloakacicdiaaDoor
namespace Go.Proofs.YtjhloakacicdiaaDoor
open Go.AH
attribute [local irreducible] W RS
theorem setL_app1:∀ (c r:List Value) (o:Nat) (vs:List Value),o+vs.length≤c.length→setL (c++r) o vs=setL c o vs++r
  | [],r,o,vs,h=>by
    have h:o+vs.length≤0:=h
    have h1:o=0:=by omega
    have h2:vs=[]:=List.length_eq_zero_iff.1 (by omega)
    subst h1;subst h2
    rw [setL_nil,setL_nil]
  | a::c,r,0,[],_=>by rw [setL_nil,setL_nil]
  | a::c,r,0,v::vs,h=>by
    have:=setL_app1 c r 0 vs (by simp at h ⊢;omega)
    simp only [List.cons_append,setL,this]
  | a::c,r,o+1,vs,h=>by
    have:=setL_app1 c r o vs (by simp at h ⊢;omega)
    simp only [List.cons_append,setL,this]
theorem setL_app2:∀ (c r:List Value) (k:Nat) (vs:List Value),setL (c++r) (c.length+k) vs=c++setL r k vs
  | [],r,k,vs=>by simp
  | a::c,r,k,vs=>by
    have:=setL_app2 c r k vs
    have e:(a::c).length+k=(c.length+k)+1:=by simp;omega
    rw [e]
    simp only [List.cons_append,setL,this]
theorem flat_set {w:Nat}:∀ {L:List (List Value)},(∀ c∈L,c.length=w)→∀ {i o:Nat} {x vs:List Value},L[i]?=some x→o+vs.length≤w→setL L.flatten (i * w+o) vs=(L.set i (setL x o vs)).flatten:=by
  intro L
  induction L with
  | nil=>intro _ i o x vs hx;simp at hx
  | cons c L ih =>
    intro hw i o x vs hx ho
    have hc:=hw c (by simp)
    cases i with
    | zero =>
      simp only [List.getElem?_cons_zero,Option.some.injEq] at hx
      subst hx
      rw [Nat.zero_mul,Nat.zero_add,List.flatten_cons,setL_app1 _ _ _ _ (by omega),List.set_cons_zero,List.flatten_cons]
    | succ i =>
      have:=ih (fun c' hc'=>hw c' (by simp [hc'])) (i:=i) (by simpa using hx) ho
      rw [List.flatten_cons,List.set_cons_succ,List.flatten_cons,← this]
      have e:(i+1) * w+o=c.length+(i * w+o):=by rw [hc,Nat.succ_mul];omega
      rw [e,setL_app2]
theorem flat_take {w:Nat} {L:List (List Value)} (hw:∀ c∈L,c.length=w) {i:Nat} {x:List Value} (hx:L[i]?=some x):takeV (i * w) w L.flatten=x∧i * w+w≤L.flatten.length:=by
  have hxl:=hw x (List.mem_of_getElem? hx)
  have hi:=(List.getElem?_eq_some_iff.1 hx).1
  have hlen:=flat_len hw
  have hle:i * w+w≤L.flatten.length:=by
    rw [hlen]
    have:(i+1) * w≤L.length * w:=Nat.mul_le_mul_right _ (by omega)
    rw [Nat.succ_mul] at this;exact this
  refine ⟨?_,hle⟩
  rw [takeV_eq]
  apply List.ext_getElem?
  intro j
  by_cases hj:j < w
  · rw [List.getElem?_take_of_lt hj,List.getElem?_drop,flat_get hw i j hj,hx];rfl
  · have h1:x[j]?=none:=by rw [List.getElem?_eq_none_iff];omega
    rw [h1,List.getElem?_take,if_neg hj]
abbrev InsV:=InsS × Nat
def insVC (x:InsV):List Value:=[.int .i64 x.1.op,.int .i64 x.1.dst,.int .i64 x.1.a.reg,.int .i64 x.1.a.num,.int .i64 x.1.b.reg,.int .i64 x.1.b.num,.int .i64 x.1.size,.bool x.1.signed,.bool x.1.secret,.int .i64 x.1.ref,.int .i64 x.1.off,rowVl 2 x.2 x.1.args]
structure BV where
  ins:List InsV
  r:Nat
  term:TermS
def BV.s (b:BV):BlockS:=⟨b.ins.map (·.1),b.term⟩
def BV.c (b:BV):List Value:=rowVl 12 b.r b.ins::termC b.term
def insA (x:InsV):Option Addr:=if x.1.args=[] then none else some ⟨x.2,0,none⟩
def insK (x:InsV):Nat:=if x.1.args=[] then 0 else capOf 2
theorem insVC_eq (x:InsV):insVC x=insC x.1 (insA x) (insK x):=by
  unfold insVC insC insA insK
  rw [rowVl_eq]
theorem insVC_length (x:InsV):(insVC x).length=12:=rfl
def BV.A (b:BV):Option Addr:=if b.ins=[] then none else some ⟨b.r,0,none⟩
def BV.k (b:BV):Nat:=if b.ins=[] then 0 else capOf 12
theorem BVc_eq (b:BV):b.c=blockC b.s b.A b.k:=by
  unfold BV.c blockC BV.A BV.k BV.s
  rw [rowVl_eq]
  simp [termC]
structure OwnB (h:Hp) (bb:Nat) (bv:List BV):Prop where
  rw:rwM≤bb
  m:h.m bb=some ⟨⟨(bv.map BV.c).flatten⟩,50⟩
  row:∀ b∈bv,b.ins≠[]→rwM≤b.r∧h.m b.r=some ⟨⟨(b.ins.map insVC).flatten⟩,58⟩
  arg:∀ b∈bv,∀ x∈b.ins,x.1.args≠[]→rwM≤x.2∧h.m x.2=some ⟨⟨argsC x.1.args⟩,46⟩
  sep:∀ (i j:Nat) (x y:BV),bv[i]?=some x→bv[j]?=some y→x.ins≠[]→y.ins≠[]→x.r=y.r→i=j
def sL (bv:List BV):List BlockS:=bv.map BV.s
theorem insR_own {h:Hp} {x:InsV} (ha:x.1.args≠[]→rwM≤x.2∧h.m x.2=some ⟨⟨argsC x.1.args⟩,46⟩):insR h (insVC x) x.1:=by
  refine ⟨insA x,insK x,insVC_eq x,?_⟩
  unfold insA
  by_cases e:x.1.args=[]
  · rw [e];exact .nil
  · rw [if_neg e];exact argR_row (ha e).2
theorem own_ins {h:Hp} {b:BV} (hr:b.ins≠[]→rwM≤b.r∧h.m b.r=some ⟨⟨(b.ins.map insVC).flatten⟩,58⟩) (ha:∀ x∈b.ins,x.1.args≠[]→rwM≤x.2∧h.m x.2=some ⟨⟨argsC x.1.args⟩,46⟩):SlAt h b.A 12 (b.ins.map (·.1)) (insR h):=by
  refine ⟨fun i x hx=>?_⟩
  have hne:b.ins≠[]:=by intro e;rw [e] at hx;simp at hx
  rw [List.getElem?_map] at hx
  obtain ⟨y,hy,rfl⟩:=Option.map_eq_some_iff.1 hx
  have hw:∀ c∈b.ins.map insVC,c.length=12:=by intro c hc;obtain ⟨z,_,rfl⟩:=List.mem_map.1 hc;rfl
  obtain ⟨h1,h2⟩:=flat_take hw (i:=i) (x:=insVC y) (by rw [List.getElem?_map,hy];rfl)
  refine ⟨b.r,0,_,58,by unfold BV.A;rw [if_neg hne],(hr hne).2,by omega,?_⟩
  rw [Nat.zero_add,h1]
  exact insR_own (ha y (List.mem_of_getElem? hy))
theorem OwnB.sl {h:Hp} {bb:Nat} {bv:List BV} (o:OwnB h bb bv):SlAt h (some ⟨bb,0,none⟩) 9 (sL bv) (blockR h):=by
  refine ⟨fun i x hx=>?_⟩
  unfold sL at hx
  rw [List.getElem?_map] at hx
  obtain ⟨b,hb,rfl⟩:=Option.map_eq_some_iff.1 hx
  have hw:∀ c∈bv.map BV.c,c.length=9:=by intro c hc;obtain ⟨z,_,rfl⟩:=List.mem_map.1 hc;rfl
  obtain ⟨h1,h2⟩:=flat_take hw (i:=i) (x:=b.c) (by rw [List.getElem?_map,hb];rfl)
  have hmem:=List.mem_of_getElem? hb
  refine ⟨bb,0,_,50,rfl,o.m,by omega,b.A,b.k,?_,own_ins (o.row b hmem) (o.arg b hmem)⟩
  rw [Nat.zero_add,h1];exact BVc_eq b
theorem OwnB.up {h H:Hp} {bb:Nat} {bv:List BV} (o:OwnB h bb bv) (hu:∀ i b,h.m i=some b→H.m i=some b):OwnB H bb bv :=
  ⟨o.rw,hu _ _ o.m,fun b hb hn=>⟨(o.row b hb hn).1,hu _ _ (o.row b hb hn).2⟩,fun b hb x hx hn=>⟨(o.arg b hb x hx hn).1,hu _ _ (o.arg b hb x hx hn).2⟩,o.sep⟩
def Foot (bb:Nat) (bv:List BV) (i:Nat):Prop:=i=bb∨∃ b∈bv,b.ins≠[]∧b.r=i
theorem sL_length (bv:List BV):(sL bv).length=bv.length:=by simp [sL]
theorem mem_set {α:Type} {l:List α} {i:Nat} {a b:α} (h:b∈l.set i a):b∈l∨b=a:=by
  rcases List.mem_or_eq_of_mem_set h with h|h
  · exact .inl h
  · exact .inr h
theorem OwnB.setT {h:Hp} {bb:Nat} {bv:List BV} (o:OwnB h bb bv) {i:Nat} {b:BV} (hb:bv[i]?=some b) (t:TermS) :
    OwnB (h.set bb ⟨⟨((bv.set i { b with term:=t }).map BV.c).flatten⟩,50⟩) bb (bv.set i { b with term:=t }):=by
  have hmem:=List.mem_of_getElem? hb
  have keep:∀ {j:Nat} {x:Blk},h.m j=some x→x.elem≠50→(h.set bb ⟨⟨((bv.set i { b with term:=t }).map BV.c).flatten⟩,50⟩).m j=some x:=by
    intro j x hx he
    show (if j=bb then _ else h.m j)=_
    rw [if_neg (fun e=>?_)]
    · exact hx
    · subst e
      rw [o.m] at hx
      injection hx with hx
      rw [← hx] at he
      exact he rfl
  refine ⟨o.rw,by show (if bb=bb then _ else _)=_;rw [if_pos rfl],fun x hx hn=>?_,fun x hx y hy hn=>?_,fun j k x y hx hy hxn hyn he=>?_⟩
  · rcases mem_set hx with h1|h1
    · exact ⟨(o.row x h1 hn).1,keep (o.row x h1 hn).2 (by simp)⟩
    · subst h1
      exact ⟨(o.row b hmem hn).1,keep (o.row b hmem hn).2 (by simp)⟩
  · rcases mem_set hx with h1|h1
    · exact ⟨(o.arg x h1 y hy hn).1,keep (o.arg x h1 y hy hn).2 (by simp)⟩
    · subst h1
      exact ⟨(o.arg b hmem y hy hn).1,keep (o.arg b hmem y hy hn).2 (by simp)⟩
  · have back:∀ {j:Nat} {x:BV},(bv.set i { b with term:=t })[j]?=some x→∃ x',bv[j]?=some x'∧x'.ins=x.ins∧x'.r=x.r:=by
      intro j x hx
      rw [List.getElem?_set] at hx
      split at hx
      · rename_i e
        subst e
        split at hx
        · injection hx with hx
          subst hx
          exact ⟨b,hb,rfl,rfl⟩
        · cases hx
      · exact ⟨x,hx,rfl,rfl⟩
    obtain ⟨x',h1,h2,h3⟩:=back hx
    obtain ⟨y',g1,g2,g3⟩:=back hy
    exact o.sep j k x' y' h1 g1 (by rw [h2];exact hxn) (by rw [g2];exact hyn) (by rw [h3,g3];exact he)
theorem bv_wid (bv:List BV):∀ c∈bv.map BV.c,c.length=9:=by intro c hc;obtain ⟨z,_,rfl⟩:=List.mem_map.1 hc;rfl
theorem bv_at {bv:List BV} {i:Nat} {b:BV} (hb:bv[i]?=some b):(bv.map BV.c)[i]?=some b.c:=by rw [List.getElem?_map,hb];rfl
theorem bv_write {bv:List BV} {i o off:Nat} {b b':BV} {vs:List Value} (hb:bv[i]?=some b) (ho:off=i * 9+o) (hl:o+vs.length≤9) (hs:setL b.c o vs=b'.c):setL (bv.map BV.c).flatten off vs=((bv.set i b').map BV.c).flatten:=by
  rw [ho,flat_set (bv_wid bv) (bv_at hb) hl,hs,List.map_set]
theorem bv_cell {bv:List BV} {i o off:Nat} {b:BV} {v:Value} (hb:bv[i]?=some b) (ho:off=i * 9+o) (hl:o < 9) (hv:b.c[o]?=some v):(bv.map BV.c).flatten[off]?=some v:=by
  rw [ho,flat_get (bv_wid bv) i o hl,bv_at hb];exact hv
theorem bv_cells {bv:List BV} {i o n off:Nat} {b:BV} (hb:bv[i]?=some b) (ho:off=i * 9+o) (hl:o+n≤9):takeV off n (bv.map BV.c).flatten=(b.c.drop o).take n∧off+n≤(bv.map BV.c).flatten.length:=by
  obtain ⟨h1,h2⟩:=flat_take (bv_wid bv) (bv_at hb)
  subst ho
  exact ⟨takeV_part h1 hl,by omega⟩
end Go.Proofs.YtjhloakacicdiaaDoor
namespace Go.Proofs.YtjhloakacicdiaaDoor
open Go.AH
attribute [local irreducible] W RS
theorem sL_set (bv:List BV) (i:Nat) (b:BV):sL (bv.set i b)=(sL bv).set i b.s:=by simp [sL,List.map_set]
theorem sL_at {bv:List BV} {i:Nat} {b:BV} (hb:bv[i]?=some b):(sL bv)[i]?=some b.s:=by simp [sL,hb]
theorem nextS_1 {t:TermS} (h:t.kind=1):nextS t=[t.goto]:=by unfold nextS;rw [if_pos h]
theorem nextS_2 {t:TermS} (h:t.kind=2):nextS t=[t.goto,t.els]:=by unfold nextS;rw [if_neg (by omega),if_pos h]
theorem nextS_turn {bl:List BlockS} (ht:tgtOK bl) {b:BlockS} (hb:b∈bl):∀ k∈nextS (turnT bl b.term),0≤k∧k < bl.length:=by
  have hth:=fun k (hk:k∈nextS b.term)=>throughGo_ok ht bl.length k (ht b hb k hk)
  unfold turnT
  by_cases h1:b.term.kind=1
  · rw [nextS_1 h1] at hth
    rw [if_pos h1]
    intro k hk
    rw [nextS_1 (t:={ b.term with goto:=throughS bl b.term.goto }) h1] at hk
    simp only [List.mem_singleton] at hk hth
    subst hk
    exact hth _ rfl
  · rw [if_neg h1]
    by_cases h2:b.term.kind=2
    · rw [nextS_2 h2] at hth
      rw [if_pos h2]
      split
      · intro k hk
        have hk:k∈[throughS bl b.term.goto]:=hk
        simp only [List.mem_singleton] at hk
        subst hk
        exact hth _ (by simp)
      · intro k hk
        rw [nextS_2 (t:={ b.term with goto:=throughS bl b.term.goto,els:=throughS bl b.term.els }) h2] at hk
        simp only [List.mem_cons,List.not_mem_nil,or_false] at hk
        rcases hk with hk|hk
        · subst hk;exact hth _ (by simp)
        · subst hk;exact hth _ (by simp)
    · rw [if_neg h2]
      exact ht b hb
theorem tgtOK_set {bl:List BlockS} (ht:tgtOK bl) {i:Nat} {b:BlockS} (hb:∀ k∈nextS b.term,0≤k∧k < bl.length):tgtOK (bl.set i b):=by
  intro x hx k hk
  rw [List.length_set]
  rcases mem_set hx with h|h
  · exact ht x h k hk
  · subst h;exact hb k hk
theorem turnAt_ok {bl:List BlockS} (ht:tgtOK bl) (i:Nat):tgtOK (turnAt bl i)∧(turnAt bl i).length=bl.length:=by
  unfold turnAt
  split
  · rename_i b hb
    exact ⟨tgtOK_set ht (nextS_turn ht (List.mem_of_getElem? hb)),List.length_set⟩
  · exact ⟨ht,rfl⟩
theorem foot_setT {bv:List BV} {bb i:Nat} {b:BV} (hb:bv[i]?=some b) (t:TermS) (j:Nat):Foot bb (bv.set i { b with term:=t }) j↔Foot bb bv j:=by
  unfold Foot
  constructor
  · rintro (h|⟨x,hx,hn,hr⟩)
    · exact .inl h
    · rcases mem_set hx with h1|h1
      · exact .inr ⟨x,h1,hn,hr⟩
      · subst h1;exact .inr ⟨b,List.mem_of_getElem? hb,hn,hr⟩
  · rintro (h|⟨x,hx,hn,hr⟩)
    · exact .inl h
    · obtain ⟨k,hk⟩:=List.mem_iff_getElem?.1 hx
      by_cases e:i=k
      · subst e
        rw [hb] at hk
        injection hk with hk
        subst hk
        exact .inr ⟨{ b with term:=t },List.mem_of_getElem? (i:=i) (by rw [List.getElem?_set,if_pos rfl,if_pos (List.getElem?_eq_some_iff.1 hb).1]),hn,hr⟩
      · exact .inr ⟨x,List.mem_of_getElem? (i:=k) (by rw [List.getElem?_set,if_neg e];exact hk),hn,hr⟩
structure FunB (h:Hp) (fb:Nat) (f:FuncS) (A1:Option Addr) (c1:Nat) (A2:Option Addr) (c2:Nat) (bb c3:Nat):Prop where
  m:h.m fb=some ⟨⟨funcC f A1 c1 A2 c2 (some ⟨bb,0,none⟩) c3⟩,37⟩
  rw:rwM≤fb
theorem FunB.at {h:Hp} {fb:Nat} {f:FuncS} {A1:Option Addr} {c1:Nat} {A2:Option Addr} {c2 bb c3:Nat} {bv:List BV} (o:FunB h fb f A1 c1 A2 c2 bb c3) (ob:OwnB h bb bv) (hl:f.blocks.length=bv.length):FAt h fb f.regs (some ⟨bb,0,none⟩) c3 (sL bv) :=
  ⟨⟨_,o.m,rfl,by rw [sL_length,← hl];rfl⟩,ob.sl⟩
theorem OwnB.setI {h H:Hp} {bb:Nat} {bv:List BV} (o:OwnB h bb bv) {i:Nat} {b1:BV} (hm:H.m bb=some ⟨⟨((bv.set i b1).map BV.c).flatten⟩,50⟩)
    (hkeep:∀ j x,h.m j=some x→x.elem=46→H.m j=some x) (hrows:∀ (j:Nat) (x:BV),bv[j]?=some x→j≠i→x.ins≠[]→H.m x.r=h.m x.r)
    (hnew:b1.ins≠[]→rwM≤b1.r∧H.m b1.r=some ⟨⟨(b1.ins.map insVC).flatten⟩,58⟩) (harg:∀ x∈b1.ins,x.1.args≠[]→rwM≤x.2∧h.m x.2=some ⟨⟨argsC x.1.args⟩,46⟩)
    (hsep:∀ (j:Nat) (x:BV),bv[j]?=some x→j≠i→x.ins≠[]→b1.ins≠[]→x.r≠b1.r):OwnB H bb (bv.set i b1):=by
  have back:∀ {j:Nat} {x:BV},(bv.set i b1)[j]?=some x→(j=i∧x=b1)∨(j≠i∧bv[j]?=some x):=by
    intro j x hx
    rw [List.getElem?_set] at hx
    split at hx
    · rename_i e
      split at hx
      · injection hx with hx
        exact .inl ⟨e.symm,hx.symm⟩
      · cases hx
    · rename_i e
      exact .inr ⟨fun e'=>e e'.symm,hx⟩
  refine ⟨o.rw,hm,fun x hx hn=>?_,fun x hx y hy hn=>?_,fun j k x y hx hy hxn hyn he=>?_⟩
  · obtain ⟨j,hj⟩:=List.mem_iff_getElem?.1 hx
    rcases back hj with ⟨_,e⟩|⟨e,hj'⟩
    · subst e;exact hnew hn
    · have:=o.row x (List.mem_of_getElem? hj') hn
      exact ⟨this.1,by rw [hrows j x hj' e hn];exact this.2⟩
  · rcases mem_set hx with h1|h1
    · have:=o.arg x h1 y hy hn
      exact ⟨this.1,hkeep _ _ this.2 rfl⟩
    · subst h1
      have:=harg y hy hn
      exact ⟨this.1,hkeep _ _ this.2 rfl⟩
  · rcases back hx with ⟨e1,e2⟩|⟨e1,h1⟩
    · rcases back hy with ⟨g1,g2⟩|⟨g1,h2⟩
      · rw [e1,g1]
      · subst e2
        exact absurd he.symm (hsep k y h2 g1 hyn hxn)
    · rcases back hy with ⟨g1,g2⟩|⟨g1,h2⟩
      · subst g2
        exact absurd he (hsep j x h1 e1 hxn hyn)
      · exact o.sep j k x y h1 h2 hxn hyn he
theorem OwnB.row_ne {h:Hp} {bb:Nat} {bv:List BV} (o:OwnB h bb bv) {x:BV} (hx:x∈bv) (hn:x.ins≠[]) {j:Nat} {y:Blk} (hy:h.m j=some y) (he:y.elem≠58):x.r≠j:=by
  intro e
  have:=(o.row x hx hn).2
  rw [e,hy] at this
  injection this with this
  rw [this] at he
  exact he rfl
theorem ne_of_elem {h:Hp} {i j:Nat} {x y:Blk} (hx:h.m i=some x) (hy:h.m j=some y) (he:x.elem≠y.elem):i≠j:=by
  intro e
  subst e
  rw [hx] at hy
  injection hy with hy
  exact he (by rw [hy])
def totB (bv:List BV):Nat:=(bv.map fun b=>b.ins.length).sum
theorem sum_set {l:List Nat} {i v w:Nat} (h:l[i]?=some w):(l.set i v).sum+w=l.sum+v:=by
  induction l generalizing i with
  | nil=>simp at h
  | cons a l ih =>
    cases i with
    | zero =>
      simp only [List.getElem?_cons_zero,Option.some.injEq] at h
      subst h
      simp only [List.set_cons_zero,List.sum_cons];omega
    | succ i =>
      have:=ih (i:=i) (by simpa using h)
      simp only [List.set_cons_succ,List.sum_cons];omega
theorem totB_set {bv:List BV} {i:Nat} {b c:BV} (h:bv[i]?=some b):totB (bv.set i c)+b.ins.length=totB bv+c.ins.length:=by
  unfold totB
  rw [List.map_set]
  exact sum_set (by rw [List.getElem?_map,h];rfl)
theorem totB_le {bv:List BV} {b:BV} (h:b∈bv):b.ins.length≤totB bv:=by
  unfold totB
  induction bv with
  | nil=>cases h
  | cons a l ih =>
    simp only [List.map_cons,List.sum_cons]
    rcases List.mem_cons.1 h with e|e
    · subst e;omega
    · have:=ih e;omega
theorem countP_set {α:Type} {p:α→Bool} {l:List α} {i:Nat} {v w:α} (h:l[i]?=some w):(l.set i v).countP p+(if p w=true then 1 else 0)=l.countP p+(if p v=true then 1 else 0):=by
  induction l generalizing i with
  | nil=>simp at h
  | cons a l ih =>
    cases i with
    | zero =>
      simp only [List.getElem?_cons_zero,Option.some.injEq] at h
      subst h
      simp only [List.set_cons_zero,List.countP_cons];omega
    | succ i =>
      have:=ih (i:=i) (by simpa using h)
      simp only [List.set_cons_succ,List.countP_cons];omega
structure MeltI (h:Hp) (bb:Nat) (bv0:List BV) (fb:Nat) (f:FuncS) (A1:Option Addr) (c1:Nat) (A2:Option Addr) (c2 c3:Nat) (bv:List BV) (B:Hp):Prop where
  ob:OwnB B bb bv
  fn:FunB B fb f A1 c1 A2 c2 bb c3
  off:OffS (Foot bb bv0) h B
  foot:∀ i,Foot bb bv i→Foot bb bv0 i∨h.n≤i
  len:bv.length=bv0.length
  tgt:tgtOK (sL bv)
  tot:totB bv≤1000000
theorem MeltI.up {h:Hp} {bb:Nat} {bv0:List BV} {fb:Nat} {f:FuncS} {A1:Option Addr} {c1:Nat} {A2:Option Addr} {c2 c3:Nat} {bv:List BV} {B B':Hp} (m:MeltI h bb bv0 fb f A1 c1 A2 c2 c3 bv B) (hd:∀ i x,B.m i=some x→i < B.n) (o:Old B B'):MeltI h bb bv0 fb f A1 c1 A2 c2 c3 bv B' :=
  ⟨m.ob.up (o.up hd),⟨o.up hd _ _ m.fn.m,m.fn.rw⟩,m.off.same o.off,m.foot,m.len,m.tgt,m.tot⟩
end Go.Proofs.YtjhloakacicdiaaDoor
