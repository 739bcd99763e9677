/-
  What the functions that the law reaches compute,told by plain data;it holds of programs that pass the check of right form and are light.
-/
import Derived.Carry
import Derived.LaidMore
import Derived.Lib.LaidTab
import Derived.OpenShut
import Derived.ProofKit
import Derived.Stop.Joined
import Derived.Test.YtjhloakacicdiaaDoorCards
import Derived.Test.YtjhloakacicdiaaDoorChecked
import Derived.Test.YtjhloakacicdiaaDoorR1
import Derived.Test.YtjhloakacicdiaaDoorR13
import Derived.Test.YtjhloakacicdiaaDoorR19
import Derived.Test.YtjhloakacicdiaaDoorR21
import Derived.Test.YtjhloakacicdiaaDoorR23
import Derived.Test.YtjhloakacicdiaaDoorR8
import Derived.Test.YtjhloakacicdiaaDoorS2
import Derived.Test.YtjhloakacicdiaaDoorTie
set_option linter.unusedVariables false
set_option linter.unusedSimpArgs false
namespace Go.Proofs.YtjhloakacicdiaaDoor
open Go.AH
section
variable {p q:ProgS} {cl cl':RunS→List Int→InsS→Int × RunS} {at_:List Int} {s:RunS} {regs:List Int} {x:InsS}
theorem insS_mem (hop:1≤x.op∧x.op≤30) (hc:¬ (x.op=27∨x.op=28∨x.op=29)) (h0:(insS p cl at_ s regs x).1.fin=0):(insS p cl at_ s regs x).1.data=s.data∧(insS p cl at_ s regs x).1.stack=s.stack:=by
 have hs:=stepS_data s
 refine insS_elim (Q:=fun z=>z.1.fin=0→z.1.data=s.data∧z.1.stack=s.stack) (fun h h'=>absurd h' h) (fun _ _ _=>hs) (fun _ _ h'=>?_) (fun _ _ _=>hs) (fun _ _ _=>hs) (fun _ _ _=>hs) (fun _ _ _=>hs) (fun _ _ h'=>?_) (fun _ h _=>by omega) (fun _ _ h'=>?_) (fun _ h1 h2 h3 h4 _=>?_) h0
 ·dsimp only at h' ⊢
  split at h'
  ·rename_i e;rw [if_pos e];exact hs
  ·exact absurd h' (stopS_fin _ (by decide))
 ·dsimp only at h' ⊢
  rw [(loadS_ld h').2];exact hs
 ·dsimp only at h' ⊢
  split at h'
  ·exact absurd h' (stopS_fin _ (by decide))
  ·rename_i e;rw [if_neg e];exact hs
 ·exfalso
  have h2:¬ (3≤x.op∧x.op≤21):=fun h=>by rw [two_iff.2 h] at h2;cases h2
  omega
theorem insS_load (h26:x.op=26) (h0:(insS p cl at_ s regs x).1.fin=0):(stepS s).fin=0∧∃ v,ldV s (i64 (argS regs x.a+x.off)) x.size.toNat x.signed=some v∧insS p cl at_ s regs x=(leakS (stepS s) ⟨2,i64 (argS regs x.a+x.off),0⟩,setReg regs x.dst v):=by
 have h2:¬ twoS x.op=true:=fun h=>by have:=two_iff.1 h;omega
 unfold insS at h0 ⊢
 by_cases hs:(stepS s).fin=0
 ·rw [if_pos hs] at h0 ⊢
  refine ⟨hs,?_⟩
  rw [if_neg (by omega),if_neg h2,if_neg (by omega),if_neg (by omega),if_neg (by omega),if_neg (by omega),if_pos h26] at h0 ⊢
  obtain ⟨g1,g2⟩:=loadS_ld h0
  refine ⟨_,?_,by rw [g2]⟩
  rw [← ldV_congr (stepS_data s).1 (stepS_data s).2];exact g1
 ·rw [if_neg hs] at h0
  exact absurd h0 hs
theorem insS_has (hop:3≤x.op∧x.op≤26) (h0:(insS p cl at_ s regs x).1.fin=0):∃ v,(insS p cl at_ s regs x).2=setReg regs x.dst v∧hasV p at_ s regs x v:=by
 by_cases h26:x.op=26
 ·obtain ⟨_,v,h1,h2⟩:=insS_load h26 h0
  exact ⟨v,by rw [h2],.inr ⟨h26,h1⟩⟩
 ·obtain ⟨_,h2,_⟩:=insS_pure (pure_iff.2 (by omega)) h0
  exact ⟨_,by rw [h2],.inl ⟨hop.1,by omega,rfl⟩⟩
theorem hasV_one {u v:Int} (h1:hasV p at_ s regs x u) (h2:hasV p at_ s regs x v):u=v:=by
 rcases h1 with ⟨_,a2,a3⟩|⟨a1,a2⟩<;>rcases h2 with ⟨_,b2,b3⟩|⟨b1,b2⟩
 ·rw [a3,b3]
 ·omega
 ·omega
 ·rw [a2] at b2;injection b2
theorem copy_sim (hop:3≤x.op∧x.op≤26) (h0:(insS p cl at_ s regs x).1.fin=0) (l:List LeakS) {z:Int} (hz:0≤z) (hv:hasV p at_ s regs x (regV regs z)) :
 ∃ l',insS q cl' at_ (lks s l) regs (plainI 2 x.dst ⟨z,0⟩)=(lks (insS p cl at_ s regs x).1 l',(insS p cl at_ s regs x).2)∧∀ gc,Sim (gIns gc x (plainI 2 x.dst ⟨z,0⟩)) s.leaks (insS p cl at_ s regs x).1.leaks l l':=by
 have ha:argS regs (⟨z,0⟩:ArgS)=regV regs z:=argS_reg hz
 by_cases h26:x.op=26
 ·obtain ⟨h1,v,h2,h3⟩:=insS_load h26 h0
  have e:=hasV_one hv (.inr ⟨h26,h2⟩)
  rw [h3]
  refine ⟨l,?_,fun gc=>?_⟩
  ·unfold insS
   rw [stepS_lks,if_pos (show (lks (stepS s) l).fin=0 from h1),if_pos (show (plainI 2 x.dst ⟨z,0⟩).op=1∨(plainI 2 x.dst ⟨z,0⟩).op=2 from .inr rfl)]
   show (_,setReg regs x.dst (argS regs ⟨z,0⟩))=_
   rw [ha,e];rfl
  ·unfold gIns
   rw [if_pos (.inl h26)]
   refine Sim.one (l:=⟨2,i64 (argS regs x.a+x.off),0⟩) ?_
   rw [if_neg (by show ¬ decide ((2:Int)=x.op)=true;rw [h26];decide)]
   show Sim gNone (_::s.leaks) (_::(stepS s).leaks) l l
   rw [stepS_leaks]
   exact Sim.none _ _
 ·refine pure_sim (pure_iff.2 (by omega)) h0 l (.inr rfl) rfl ?_
  show argS regs ⟨z,0⟩=_
  rw [ha]
  rcases hv with ⟨_,_,h⟩|⟨h,_⟩
  ·exact h
  ·exact absurd h h26
theorem two_sim {x':InsS} (h2:twoS x.op=true) (h0:(insS p cl at_ s regs x).1.fin=0) (l:List LeakS) (e1:x'.op=x.op) (e2:x'.dst=x.dst) (hk:reckonS x.op (argS regs x'.a) (argS regs x'.b)=reckonS x.op (argS regs x.a) (argS regs x.b)) :
 ∃ l',insS q cl' at_ (lks s l) regs x'=(lks (insS p cl at_ s regs x).1 l',(insS p cl at_ s regs x).2)∧∀ gc,Sim (gIns gc x x') s.leaks (insS p cl at_ s regs x).1.leaks l l':=by
 have hop:=two_iff.1 h2
 obtain ⟨h1,h3,h4⟩:=insS_pure (pure_iff.2 (by omega)) h0
 rw [h3]
 have hv:valS p at_ regs x=(reckonS x.op (argS regs x.a) (argS regs x.b)).1:=by unfold valS;rw [if_neg (by omega),if_pos h2]
 refine ⟨l,?_,fun gc=>?_⟩
 ·unfold insS
  rw [stepS_lks,if_pos (show (lks (stepS s) l).fin=0 from h1),e1,e2,if_neg (by omega),if_pos h2,hk,if_pos (h4 h2),hv]
 ·unfold gIns
  rw [if_neg (by omega),if_neg (by omega),if_neg (by omega)]
  show Sim gNone s.leaks (stepS s).leaks l l
  rw [stepS_leaks]
  exact Sim.none _ _
end
theorem accM_val {p:ProgS} {c:CseS} {at_:List Int} {s:RunS} {regs:List Int} (h:KnowS p c at_ s regs) (ok:MOK c.m) (al:List ArgS):∀ n,accV regs (al.map fun a=>argM c.m a (-1)) n=accV regs al n
 | 0=>rfl
 | n+1=>by
  rw [accV,accV,accM_val h ok al n]
  congr 1
  rw [List.getD_eq_getElem?_getD,List.getD_eq_getElem?_getD,List.getElem?_map]
  cases al[n]? with
  | none=>rfl
  | some a=>exact argM_val h ok a _
theorem cse_ins {p q:ProgS} (hg:q.globals=p.globals) {f:FuncS} {c:CseS} {x:InsS} (hR:RightI p f x) (ok:MOK c.m):InsSim p q f.regs.toNat x (insX c x) (KnowS p c) (KnowS p (insM c x)):=by
 have hop:=hR.op
 have hrT:=hR.right
 refine ⟨fun hc=>?_,fun hc cl cl' at_ s regs lk hJ hr h0=>?_⟩
 ·have e1:insX c x=headI c.m x:=by unfold insX;rw [if_neg (by omega),if_pos (by omega)]
  have e2:insM c x=if 0≤x.dst then chgC ⟨c.m,memW c.w⟩ x.dst else ⟨c.m,memW c.w⟩:=by unfold insM;rw [if_neg (by omega),if_pos (by omega)]
  rw [e1,e2]
  refine ⟨rfl,rfl,rfl,by simp [headI],fun at_ s regs hJ hr=>⟨argM_val hJ ok _ _,accM_val hJ ok _ _,fun s1 v _=>?_⟩⟩
  split
  ·exact (hJ.forget (t:=s)).chg ok (.inr memW_no) _ _
  ·rename_i hd
   have:setReg regs x.dst v=regs:=by unfold setReg;rw [if_neg hd]
   rw [this];exact hJ.forget
 ·have hA:=fun a but=>argM_val hJ ok a but
  by_cases c1:x.op=2∨x.op=1
  ·have e1:insX c x=headI c.m x:=by unfold insX;rw [if_pos c1]
   have e2:insM c x=if (headI c.m x).a.reg≠x.dst then putC (chgC c x.dst) x.dst (headI c.m x).a else chgC c x.dst:=by unfold insM;rw [if_pos c1]
   obtain ⟨l',m1,m2⟩:=ins_same (x':=headI c.m x) (cl:=cl) (cl':=cl') hg hc hop lk rfl rfl rfl rfl rfl rfl (hA _ _) (hA _ _) h0
   rw [e1,e2]
   refine ⟨l',m1,m2,?_⟩
   obtain ⟨_,g2,_⟩:=insS_pure (pure_iff.2 (by omega)) h0
   have hd0:0≤x.dst:=by rw [rightT_two (by omega)] at hrT;exact of_decide_eq_true hrT
   have hdl:x.dst.toNat < regs.length:=by rw [hr.len];have:=hR.dst;omega
   have hv:valS p at_ regs x=argS regs x.a:=by unfold valS;rw [if_pos (by omega)]
   rw [g2]
   have hk:=hJ.chg (t:=stepS s) ok (.inl (stepS_data s)) x.dst (valS p at_ regs x)
   split
   ·rename_i hne
    refine hk.put hd0 ?_
    rw [regV_new hd0 hdl,argS_set hne,hv]
    exact hA _ _
   ·exact hk
  by_cases c3:x.op=27
  ·have e1:insX c x=headI c.m x:=by unfold insX;rw [if_neg c1,if_pos (by omega)]
   have hd:x.dst=-1:=by
    unfold rightT at hrT
    rw [if_neg (by omega),if_pos c3] at hrT
    simp only [Bool.and_eq_true,beq_iff_eq] at hrT
    exact hrT.1
   have e2:insM c x=⟨c.m,memW c.w⟩:=by unfold insM;rw [if_neg c1,if_pos (by omega),if_neg (by omega)]
   obtain ⟨l',m1,m2⟩:=ins_same (x':=headI c.m x) (cl:=cl) (cl':=cl') hg hc hop lk rfl rfl rfl rfl rfl rfl (hA _ _) (hA _ _) h0
   rw [e1,e2]
   refine ⟨l',m1,m2,?_⟩
   have h2:(insS p cl at_ s regs x).2=regs:=by
    unfold insS
    split
    ·have n2:twoS 27=false:=rfl
     simp only [Bool.false_eq_true,c3,n2,if_false,if_true,reduceCtorEq,Int.reduceEq,or_self]
    ·rfl
   rw [h2];exact hJ.forget
  by_cases c4:x.op=30
  ·have e1:insX c x=headI c.m x:=by unfold insX;rw [if_neg c1,if_neg (by omega),if_pos c4]
   have e2:insM c x=c:=by unfold insM;rw [if_neg c1,if_neg (by omega),if_pos c4]
   obtain ⟨l',m1,m2⟩:=ins_same (x':=headI c.m x) (cl:=cl) (cl':=cl') hg hc hop lk rfl rfl rfl rfl rfl rfl (hA _ _) (hA _ _) h0
   rw [e1,e2]
   refine ⟨l',m1,m2,?_⟩
   have h2:(insS p cl at_ s regs x).2=regs:=by
    unfold insS
    split
    ·have n2:twoS 30=false:=rfl
     simp only [Bool.false_eq_true,c4,n2,if_false,if_true,reduceCtorEq,Int.reduceEq,or_self]
    ·rfl
   rw [h2];exact hJ.mem (.inl (insS_mem hop (by omega) h0))
  have hop3:3≤x.op∧x.op≤26:=by omega
  have hd0:0≤x.dst:=by
   unfold rightT at hrT
   rw [if_neg (show ¬ x.op=27 by omega)] at hrT
   repeat' split at hrT
   all_goals first
    | omega
    | (simp only [Bool.and_eq_true,decide_eq_true_eq] at hrT;first|exact hrT|exact hrT.1|exact hrT.1.1)
  have hdl:x.dst.toNat < regs.length:=by rw [hr.len];have:=hR.dst;omega
  have hmem:=insS_mem hop (by omega) h0
  obtain ⟨v,hv1,hv2⟩:=insS_has hop3 h0
  by_cases c5:0≤foundW c x
  ·have e1:insX c x=plainI 2 x.dst ⟨foundW c x,0⟩:=by unfold insX;rw [if_neg c1,if_neg (by omega),if_neg (by omega),if_pos c5]
   have e2:insM c x=if foundW c x≠x.dst then putC (chgC c x.dst) x.dst ⟨foundW c x,0⟩ else c:=by unfold insM;rw [if_neg c1,if_neg (by omega),if_neg (by omega),if_pos c5]
   have hf:=found_has hJ ok c5
   obtain ⟨l',m1,m2⟩:=copy_sim (q:=q) (cl:=cl) (cl':=cl') hop3 h0 lk c5 hf
   rw [e1,e2]
   refine ⟨l',m1,m2,?_⟩
   have ev:=hasV_one hv2 hf
   rw [hv1]
   split
   ·rename_i hne
    refine (hJ.chg ok (.inl hmem) x.dst v).put hd0 ?_
    rw [argS_set hne,regV_new hd0 hdl,ev]
    exact argS_reg c5
   ·rename_i hne
    have:foundW c x=x.dst:=by omega
    rw [ev,this,setReg_same]
    exact hJ.mem (.inl hmem)
  ·have e1:insX c x=turnI (headI c.m x):=by unfold insX;rw [if_neg c1,if_neg (by omega),if_neg (by omega),if_neg c5]
   have e2:insM c x=if (turnI (headI c.m x)).a.reg≠x.dst∧(turnI (headI c.m x)).b.reg≠x.dst then ⟨(chgC c x.dst).m,(chgC c x.dst).w++[(turnI (headI c.m x),x.dst)]⟩ else chgC c x.dst:=by unfold insM;rw [if_neg c1,if_neg (by omega),if_neg (by omega),if_neg c5]
   have hl:=(like_head hJ ok x).trans (like_turn regs (headI c.m x))
   have main:∃ l',insS q cl' at_ (lks s lk) regs (turnI (headI c.m x))=(lks (insS p cl at_ s regs x).1 l',(insS p cl at_ s regs x).2)∧∀ gc,Sim (gIns gc x (turnI (headI c.m x))) s.leaks (insS p cl at_ s regs x).1.leaks lk l':=by
    by_cases h2:twoS x.op=true
    ·exact two_sim h2 h0 lk hl.op (by unfold turnI;split<;>rfl) (hl.two h2)
    ·have ht:turnI (headI c.m x)=headI c.m x:=by
      unfold turnI
      rw [if_neg]
      intro h
      unfold turnB at h
      simp only [Bool.and_eq_true,decide_eq_true_eq] at h
      have h1:x.op=3∨x.op=5∨x.op=10∨x.op=11∨x.op=12∨x.op=16∨x.op=17:=h.1
      exact h2 (two_iff.2 (by omega))
     rw [ht]
     exact ins_same hg hc hop lk rfl rfl rfl rfl rfl rfl (hA _ _) (hA _ _) h0
   obtain ⟨l',m1,m2⟩:=main
   rw [e1,e2]
   refine ⟨l',m1,m2,?_⟩
   rw [hv1]
   have hk:=hJ.chg ok (.inl hmem) x.dst v
   split
   ·rename_i hne
    refine hk.push hd0 ?_
    rw [regV_new hd0 hdl]
    exact hasV_set (argS_set hne.1) (argS_set hne.2) (.inl hmem) (hl.has hv2)
   ·exact hk
structure COK (regs:Int) (c:CseS):Prop where
 m:MOK c.m
 row:∀ r∈c.m.rows,∀ k a,r.2=rowM k a→okA regs a
 w:∀ k∈c.w,fitI k.2∧-1≤k.2∧k.2 < regs
theorem COK.zero (regs:Int):COK regs cse0:=⟨.empty,(fun r hr=>by cases hr),(fun k hk=>by cases hk)⟩
section
variable {regs:Int} {c:CseS}
theorem COK.chg (h:COK regs c) (d:Int):COK regs (chgC c d):=⟨(h.m.del d).drop d,fun r hr=>h.row r (chg_rows h.m hr).1,fun k hk=>h.w k (List.mem_filter.1 hk).1⟩
theorem COK.mem (h:COK regs c):COK regs ⟨c.m,memW c.w⟩:=⟨h.m,h.row,fun k hk=>h.w k (List.mem_filter.1 hk).1⟩
theorem COK.put (h:COK regs c) {d:Int} {a:ArgS} (hd:fitI d) (ha:a.ok) (hk:okA regs a):COK regs (putC c d a):=by
 refine ⟨h.m.put hd ha,fun r hr k b e=>?_,h.w⟩
 rcases put_rows hr with h1|h1
 ·exact h.row r h1 k b e
 ·obtain ⟨e1,e2⟩:=rowM_inj (h1.symm.trans e)
  subst e2
  exact hk
theorem argM_okA (h:COK regs c) {a:ArgS} (ha:okA regs a) (but:Int):okA regs (argM c.m a but):=by
 unfold argM
 split
 ·split
  ·rename_i o ho
   split
   ·obtain ⟨r,hr,e⟩:=of_row h.m ho
    exact h.row r hr _ _ e
   ·exact ha
  ·exact ha
 ·exact ha
theorem found_in {x:InsS} (hf:0≤foundW c x):∃ k∈c.w,foundW c x=k.2:=by
 unfold foundW at hf ⊢
 split at hf
 ·rename_i e
  rw [if_pos e]
  obtain ⟨k,h1,_,h3⟩:=find_mem hf
  exact ⟨k,h1,h3⟩
 ·rename_i e
  rw [if_neg e]
  obtain ⟨k,h1,_,h3⟩:=find_mem hf
  exact ⟨k,h1,h3⟩
theorem COK.found (h:COK regs c) {x:InsS} (hf:0≤foundW c x):(⟨foundW c x,0⟩:ArgS).ok∧okA regs ⟨foundW c x,0⟩:=by
 obtain ⟨k,h1,h2⟩:=found_in hf
 obtain ⟨g1,g2,g3⟩:=h.w k h1
 rw [h2]
 exact ⟨⟨g1,fit0R⟩,g2,g3⟩
theorem COK.step {p:ProgS} {f:FuncS} {x:InsS} (h:COK f.regs c) (hx:x.ok) (hR:RightI p f x):COK f.regs (insM c x):=by
 have hd:=hR.dst
 unfold insM
 split
 ·rename_i h1
  have ha:okA f.regs x.a:=hR.reads _ (by
   unfold readsS
   rw [if_neg (by omega),if_neg (by omega),if_neg (fun h=>by rcases h with h|h;(have:=two_iff.1 h;omega);omega),if_neg (by omega)]
   simp)
  split
  ·exact (h.chg _).put hx.dst (argM_ok h.m hx.a _) (argM_okA h ha _)
  ·exact h.chg _
 ·split
  ·split
   ·exact h.mem.chg _
   ·exact h.mem
  ·split
   ·exact h
   ·split
    ·rename_i hf
     obtain ⟨g1,g2⟩:=h.found hf
     split
     ·exact (h.chg _).put hx.dst g1 g2
     ·exact h
    ·split
     ·refine ⟨(h.chg _).m,(h.chg _).row,fun k hk=>?_⟩
      rcases List.mem_append.1 hk with h1|h1
      ·exact (h.chg _).w k h1
      ·rw [List.mem_singleton] at h1;subst h1;exact ⟨hx.dst,hd.1,hd.2⟩
     ·exact h.chg _
end
theorem reads_to {r:Int} {x y:InsS} (ho:y.op=x.op) (ha:okA r x.a→okA r y.a) (hb:okA r x.b→okA r y.b) (hl:(∀ a∈x.args,okA r a)→∀ a∈y.args,okA r a) (h:∀ a∈readsS x,okA r a):∀ a∈readsS y,okA r a:=by
 unfold readsS at h ⊢
 rw [ho]
 by_cases c1:x.op=28
 ·rw [if_pos c1] at h ⊢;exact hl h
 rw [if_neg c1] at h ⊢
 by_cases c2:x.op=29
 ·rw [if_pos c2] at h ⊢
  intro a hm
  rcases List.mem_cons.1 hm with e|e
  ·rw [e];exact ha (h _ (by simp))
  ·exact hl (fun b hb=>h b (by simp [hb])) a e
 rw [if_neg c2] at h ⊢
 by_cases c3:twoS x.op=true∨x.op=27
 ·rw [if_pos c3] at h ⊢
  intro a hm
  simp only [List.mem_cons,List.not_mem_nil,or_false] at hm
  rcases hm with e|e
  ·rw [e];exact ha (h _ (by simp))
  ·rw [e];exact hb (h _ (by simp))
 rw [if_neg c3] at h ⊢
 by_cases c4:23≤x.op∧x.op≤25
 ·rw [if_pos c4];intro a hm;cases hm
 rw [if_neg c4] at h ⊢
 intro a hm
 rw [List.mem_singleton] at hm
 rw [hm];exact ha (h _ (by simp))
theorem reads_turn {r:Int} {x:InsS} (h:∀ a∈readsS x,okA r a):∀ a∈readsS (turnI x),okA r a:=by
 unfold turnI
 split
 ·rename_i ht
  unfold turnB at ht
  simp only [Bool.and_eq_true,decide_eq_true_eq] at ht
  have h2:twoS x.op=true:=two_iff.2 (by omega)
  unfold readsS at h ⊢
  dsimp only
  rw [if_neg (by omega),if_neg (by omega),if_pos (.inl h2)] at h ⊢
  intro a hm
  simp only [List.mem_cons,List.not_mem_nil,or_false] at hm
  rcases hm with e|e
  ·rw [e];exact h _ (by simp)
  ·rw [e];exact h _ (by simp)
 ·exact h
theorem head_right {p q:ProgS} (hL:LikeP p q) {f f':FuncS} (hs:f'.slots.length=f.slots.length) (hg:f'.regs=f.regs) {c:CseS} (hc:COK f.regs c) {x:InsS} (h:RightI p f x):RightI q f' (headI c.m x) :=
 ⟨h.op,by rw [hg];exact reads_to (x:=x) (y:=headI c.m x) rfl (fun ha=>argM_okA hc ha _) (fun ha=>argM_okA hc ha _) (fun hl a ha=>by
  obtain ⟨b,hb,rfl⟩:=List.mem_map.1 ha
  exact argM_okA hc (hl b hb) _) h.reads,by rw [hg];exact h.dst,by rw [rightT_same hL hs (x:=x) (x':=headI c.m x) rfl rfl rfl rfl (by simp [headI])];exact h.right⟩
theorem right_insX {p q:ProgS} (hL:LikeP p q) {f f':FuncS} (hs:f'.slots.length=f.slots.length) (hg:f'.regs=f.regs) {c:CseS} (hc:COK f.regs c) {x:InsS} (h:RightI p f x):RightI q f' (insX c x):=by
 have hh:=head_right hL hs hg hc h
 unfold insX
 split
 ·exact hh
 ·split
  ·exact hh
  ·split
   ·exact hh
   ·rename_i n1 n2 n3
    split
    ·rename_i hf
     have hd0:0≤x.dst:=by
      have ho:=h.op
      have hrT:=h.right
      unfold rightT at hrT
      rw [if_neg (show ¬ x.op=27 by omega)] at hrT
      repeat' split at hrT
      all_goals first
       | omega
       | (simp only [Bool.and_eq_true,decide_eq_true_eq] at hrT;first|exact hrT|exact hrT.1|exact hrT.1.1)
     exact right_plain (.inr rfl) hd0 (by rw [hg];exact h.dst.2) (by rw [hg];exact (hc.found hf).2)
    ·refine ⟨by rw [turnI_op];exact hh.op,reads_turn hh.reads,by rw [turnI_dst];exact hh.dst,?_⟩
     have e:rightT q f' (turnI (headI c.m x))=rightT q f' (headI c.m x):=rightT_same ⟨rfl,rfl,fun _=>rfl⟩ rfl (turnI_op _) (turnI_dst _) (by unfold turnI;split<;>rfl) (by unfold turnI;split<;>rfl) (by rw [turnI_a])
     rw [e];exact hh.right
theorem head_ok {c:CseS} (hm:MOK c.m) {x:InsS} (h:x.ok):InsK x (headI c.m x):=by
 refine ⟨⟨h.op,h.dst,argM_ok hm h.a _,argM_ok hm h.b _,h.size,h.ref,h.off,?_,fun a ha=>?_⟩,by simp [headI]⟩
 ·show (x.args.map _).length≤_
  rw [List.length_map];exact h.n
 ·obtain ⟨b,hb,rfl⟩:=List.mem_map.1 ha
  exact argM_ok hm (h.args b hb) _
theorem turn_ok {x:InsS} (h:x.ok):(turnI x).ok:=by
 unfold turnI
 split
 ·exact ⟨h.op,h.dst,h.b,h.a,h.size,h.ref,h.off,h.n,h.args⟩
 ·exact h
theorem insX_ok {regs:Int} {c:CseS} (hc:COK regs c) {x:InsS} (h:x.ok):InsK x (insX c x):=by
 have hh:=head_ok hc.m h
 unfold insX
 split
 ·exact hh
 ·split
  ·exact hh
  ·split
   ·exact hh
   ·split
    ·rename_i hf
     exact ⟨plainI_ok fit2 h.dst (hc.found hf).1,Nat.zero_le _⟩
    ·exact ⟨turn_ok hh.1,by rw [turnI_a];exact hh.2⟩
section
variable {p q:ProgS} {f:FuncS}
theorem COK.fold:∀ (xs:List InsS) {c:CseS},COK f.regs c→(∀ x∈xs,x.ok∧RightI p f x)→COK f.regs (xs.foldl insM c)
 | [],_,h,_=>h
 | x::xs,_,h,hx=>COK.fold xs (h.step (hx x (by simp)).1 (hx x (by simp)).2) fun y hy=>hx y (by simp [hy])
theorem insMs_length:∀ (xs:List InsS) (c:CseS),(insMs c xs).length=xs.length
 | [],_=>rfl
 | x::xs,c=>by rw [insMs,List.length_cons,List.length_cons,insMs_length xs]
theorem insMs_mem:∀ {xs:List InsS} {c:CseS},COK f.regs c→(∀ x∈xs,x.ok∧RightI p f x)→∀ y∈insMs c xs,∃ x∈xs,∃ d,COK f.regs d∧y=insX d x
 | [],_,_,_,y,hy=>by cases hy
 | x::xs,c,h,hx,y,hy=>by
  rw [insMs] at hy
  rcases List.mem_cons.1 hy with e|e
  ·exact ⟨x,by simp,c,h,e⟩
  ·obtain ⟨z,hz,d,hd,e⟩:=insMs_mem (h.step (hx x (by simp)).1 (hx x (by simp)).2) (fun z hz=>hx z (by simp [hz])) y e
   exact ⟨z,by simp [hz],d,hd,e⟩
theorem cse_inss (hg:q.globals=p.globals):∀ (xs:List InsS) (c:CseS),COK f.regs c→(∀ x∈xs,x.ok∧RightI p f x)→InssSim p q f.regs.toNat (KnowS p c) xs (insMs c xs) (KnowS p (xs.foldl insM c))
 | [],_,_,_=>.nil
 | x::xs,c,h,hx=>.cons (cse_ins hg (hx x (by simp)).2 h.m) (cse_inss hg xs (insM c x) (h.step (hx x (by simp)).1 (hx x (by simp)).2) fun y hy=>hx y (by simp [hy]))
theorem term_sim {c:CseS} (hc:MOK c.m) {r:Nat} {t:TermS}:TermSim r t (termM c.m t) (fun regs=>∃ at_ s,KnowS p c at_ s regs) (fun _ _=>True):=by
 refine ⟨fun h=>⟨h,fun regs ⟨_,_,hk⟩ _=>argM_val hk hc _ _⟩,fun h=>⟨h,rfl,fun _ _ _=>trivial⟩,fun h regs ⟨_,_,hk⟩ _ hh=>⟨trivial,.inr ⟨h,rfl,?_⟩⟩,fun h regs ⟨_,_,hk⟩ _ hh=>⟨trivial,.inr ⟨h,rfl,?_⟩⟩⟩
 ·show holdsS t.op (argS regs (argM c.m t.a (-1))) (argS regs (argM c.m t.b (-1)))=true
  rw [argM_val hk hc,argM_val hk hc];exact hh
 ·show holdsS t.op (argS regs (argM c.m t.a (-1))) (argS regs (argM c.m t.b (-1)))=false
  rw [argM_val hk hc,argM_val hk hc];exact hh
theorem cse_at {k:Nat} {b':BlockS} (h:(cseF f).blocks[k]?=some b'):∃ b,f.blocks[k]?=some b∧b'=blockM b:=by
 have h:(f.blocks.map blockM)[k]?=some b':=h
 rw [List.getElem?_map] at h
 cases hb:f.blocks[k]? with
 | none=>rw [hb] at h;cases h
 | some b=>rw [hb] at h;injection h with h;exact ⟨b,rfl,h.symm⟩
theorem cse_xs (hR:RightF p f) (hk:f.ok) {b:BlockS} (hb:b∈f.blocks):∀ x∈b.ins,x.ok∧RightI p f x:=fun x hx=>⟨(hk.blocks b hb).ins x hx,hR.ins b hb x hx⟩
theorem cse_func (hg:q.globals=p.globals) (hR:RightF p f) (hk:f.ok):FuncSim p q f (cseF f):=by
 refine ⟨rfl,rfl,List.length_map _,fun _ _=>True,fun _ _=>trivial,fun i b b' hb hb' _=>?_⟩
 obtain ⟨b0,h1,h2⟩:=cse_at hb'
 rw [hb] at h1
 injection h1 with h1
 subst h1;subst h2
 have hx:=cse_xs hR hk (List.mem_of_getElem? hb)
 exact ⟨KnowS p cse0,_,fun at_ s regs _=>.zero p at_ s regs,cse_inss hg b.ins cse0 (.zero _) hx,term_sim (COK.fold b.ins (.zero _) hx).m⟩
theorem cse_right (hL:LikeP p q) (hR:RightF p f) (hk:f.ok):RightF q (cseF f):=by
 have hn:(cseF f).blocks.length=f.blocks.length:=List.length_map _
 refine ⟨hR.params,hR.secret,by rw [hn];exact hR.pos,fun b' hb' y hy=>?_,fun b' hb'=>?_⟩
 ·obtain ⟨b,hb,rfl⟩:=List.mem_map.1 hb'
  obtain ⟨x,hx,d,hd,rfl⟩:=insMs_mem (.zero _) (cse_xs hR hk hb) y hy
  exact right_insX (f:=f) (f':=cseF f) hL rfl rfl hd (hR.ins b hb x hx)
 ·obtain ⟨b,hb,rfl⟩:=List.mem_map.1 hb'
  have hc:=COK.fold b.ins (.zero _) (cse_xs hR hk hb)
  have ht:=hR.term b hb
  refine ⟨ht.kind,fun a ha=>?_,ht.op,by rw [hn];exact ht.next⟩
  have e:treadsS (blockM b).term=(treadsS b.term).map fun a=>argM (b.ins.foldl insM cse0).m a (-1):=by
   unfold treadsS blockM termM
   dsimp only
   repeat' split
   all_goals rfl
  rw [e] at ha
  obtain ⟨a0,h0,rfl⟩:=List.mem_map.1 ha
  exact argM_okA hc (ht.reads a0 h0) _
theorem cse_keepK (hR:RightF p f) (hk:f.ok):FuncK f (cseF f):=by
 refine ⟨rfl,rfl,rfl,rfl,rfl,List.length_map _,fun k b' hb'=>?_⟩
 obtain ⟨b,hb,rfl⟩:=cse_at hb'
 have hbm:=List.mem_of_getElem? hb
 have hbo:=hk.blocks b hbm
 have hx:=cse_xs hR hk hbm
 have hi:∀ y∈(blockM b).ins,∃ x∈b.ins,InsK x y:=fun y hy=>by
  obtain ⟨x,hx',d,hd,rfl⟩:=insMs_mem (.zero _) hx y hy
  exact ⟨x,hx',insX_ok hd (hx x hx').1⟩
 have hc:=COK.fold b.ins (.zero _) hx
 refine ⟨b,hb,⟨?_,fun y hy=>?_,?_⟩,insMs_length _ _,hi⟩
 ·show (insMs cse0 b.ins).length≤_
  rw [insMs_length];exact hbo.n
 ·obtain ⟨x,_,h⟩:=hi y hy
  exact h.1
 ·exact ⟨hbo.term.kind,hbo.term.op,argM_ok hc.m hbo.term.a _,argM_ok hc.m hbo.term.b _,hbo.term.goto,hbo.term.els⟩
end
theorem cse_keeps {p q:ProgS} (h:TurnP CseR p q) (hok:p.ok) (hl:lightP p=true) (hr:rightP p=true):KeepsP p q:=by
 have hL:=lightP_all hl
 have hS:=h.same fun f f' e=>by rw [e];rfl
 have hF:∀ f∈p.funcs,RightF p f:=fun f hf=>by
  have:=hr
  unfold rightP at this
  simp only [Bool.and_eq_true] at this
  exact funcOK_iff.1 (List.all_eq_true.1 this.2 f hf)
 have hq:=turn_right h hS hr fun f f' hf hR _=>by rw [hR];exact cse_right hS.like (hF f hf) (hok.funcs f hf)
 refine keeps_of h hok hL ⟨hS,by have:=hL.nf;omega,hok,hr,fun i f f' hf hf'=>?_⟩ hq fun f f' hf hR=>?_
 ·have hm:=List.mem_of_getElem? hf
  rw [h.rel i f f' hf hf']
  exact cse_func hS.glob (hF f hm) (hok.funcs f hm)
 ·rw [hR];exact cse_keepK (hF f hf) (hok.funcs f hf)
attribute [local irreducible] W RS
def fit13I (d:Int):InsS:=⟨5,d,⟨0,0⟩,⟨0,0⟩,0,false,false,0,0,[]⟩
def fit13B:List BlockS:=[⟨[fit13I 1,fit13I 2],⟨3,0,⟨2,0⟩,⟨0,0⟩,0,0⟩⟩]
def fit13C:List BlockS:=[⟨[fit13I 1,plainI 2 2 ⟨1,0⟩],⟨3,0,⟨1,0⟩,⟨0,0⟩,0,0⟩⟩]
theorem fit13_eq:cseF (fit12F fit13B)=fit12F fit13C:=by kernel_rfl
theorem fit13_ok:∀ f∈(fit12P fit13B).funcs,(OkL f.regs f.blocks∧InsOK f)∧CopyOK f:=by
 have hok:(fit12P fit13B).ok:=ProgS.ok_of (by kernel_rfl)
 have hl:lightP (fit12P fit13B)=true:=by kernel_rfl
 have hr:rightP (fit12P fit13B)=true:=by kernel_rfl
 intro f hf
 have h1:=light_right hok hl hr f hf
 exact ⟨⟨h1.1,right_ins hok hr f hf⟩,h1.2⟩
set_option maxRecDepth 100000 in
theorem fit13_tf (h:Hp):TF Tryd.prog 26 ⟨[]⟩ h (.bool true) h:=by
 refine TF.exact (fn:=Tryd.f26) (c:=(Tryd.f26.body.getD .skip)) Tryd.func26 (by kernel_rfl) Tryd.ntmps26 (by kernel_rfl) (fun s0=>⟨Nat.le_refl _,by simp,fun i b hb=>⟨s0.dom i b hb,s0.bd i b hb⟩⟩) fun π s0=>?_
 conv=>arg 2;whnf
 ((with_reducible apply W.seq);repeat (first|refine Y14 ?_|refine Y0 ?_|refine Y1 ?_|refine Y12 ?_))
 ((with_reducible apply W.seq);repeat (first|refine Y41 ?_|refine Yn ?_|refine Y4 ?_|refine Yd ?_|refine Y17 ?_|refine Y0 ?_|refine Y1 ?_|refine Y12 ?_))
 refine W.absorbX fun B0 π0 a0=>?_
 have m0:B0.m (π 0)=some ⟨⟨insC (fit13I 1) none 0++insC (fit13I 2) none 0⟩,58⟩:=a0.loc 0 (by decide:(0:Nat) < 4)
 have m1:B0.m (π 1)=some ⟨⟨[.slice (some ⟨π 0,0,none⟩) 2 2,.int .i64 3,.int .i64 0,.int .i64 2,.int .i64 0,.int .i64 0,.int .i64 0,.int .i64 0,.int .i64 0]⟩,50⟩:=a0.loc 1 (by decide:(1:Nat) < 4)
 have m2:B0.m (π 2)=some ⟨⟨[.string ⟨#[109,97,105,110]⟩,.int .i64 0,.slice none 0 0,.int .i64 3,.slice none 0 0,.slice (some ⟨π 1,0,none⟩) 1 1]⟩,37⟩:=a0.loc 2 (by decide:(2:Nat) < 4)
 have m3:B0.m (π 3)=some ⟨⟨progC (fit12P fit13B) (some ⟨π 2,0,none⟩) 1 none 0⟩,25⟩:=a0.loc 3 (by decide:(3:Nat) < 4)
 have hs:SlAt B0 (some ⟨π 2,0,none⟩) 6 (fit12P fit13B).funcs (funcRS B0):=by
  refine slat_one m2 (Nat.le_refl _) ⟨none,0,none,0,some ⟨π 1,0,none⟩,1,[],rfl,rfl,SlAt.nil,SlAt.nil,?_⟩
  refine slat_one m1 (Nat.le_refl _) ⟨some ⟨π 0,0,none⟩,2,rfl,?_⟩
  refine ⟨fun i y hy=>?_⟩
  match i,hy with
  | 0,hy=>simp at hy;subst hy;exact ⟨π 0,0,_,_,rfl,m0,by decide,none,0,rfl,SlAt.nil⟩
  | 1,hy=>simp at hy;subst hy;exact ⟨π 0,0,_,_,rfl,m0,by decide,none,0,rfl,SlAt.nil⟩
  | i+2,hy=>simp at hy
 ((with_reducible apply W.seq);repeat (first|((with_reducible apply RS.callEx);(iterate 3 exact rfl);intro B1 hB1;refine ⟨_,cse_prog_ex (fit12P fit13B) fit13_ok (by decide) B1 (π 3) 25 _ _ _ _ (hB1.up _ _ m3) (hs.mono hB1.up fun _ _ h=>funcRS_mono hB1.up h),?_⟩;rintro v H2 π2 ⟨ob,A,c,fs,rfl,hO,hS,hl,hR,ho,hlo⟩ sH2 hle2)|refine Y14 ?_|refine Y0 ?_|refine Y1 ?_|refine Y12 ?_))
 have hl:fs.length=1:=hl
 obtain ⟨f',rfl⟩:∃ f',fs=[f']:=by
  match fs,hl with
  | [f'],_=>exact ⟨f',rfl⟩
 have hf':f'=fit12F fit13C:=(hR 0 _ f' rfl rfl).trans fit13_eq
 subst hf'
 obtain ⟨gb,go,gcs,ge,rfl,hG,hGl,G1,g1,G2,g2,G3,g3,sec,hGv,_,_,_,hGB⟩:=hS.get 0 _ rfl
 have hG5:gcs[go+0 * 6+5]?=some (.slice G3 1 g3):=take_nth hGv (j:=5) rfl
 obtain ⟨bb,bo,bcs,be,rfl,hB,hBl,Q1,q1,hBv,hBI⟩:=hGB.get 0 _ rfl
 have hB0:bcs[bo+0 * 9+0]?=some (.slice Q1 2 q1):=take_nth hBv (j:=0) rfl
 obtain ⟨ib,io,ics,ie,rfl,hI,hIl,J1,j1,hIv,_⟩:=hBI.get 1 _ rfl
 have hI0:ics[io+1 * 12+0]?=some (.int .i64 2):=take_nth hIv (j:=0) rfl
 have hGn:=sH2.dom _ _ hG
 have hBn:=sH2.dom _ _ hB
 have hIn:=sH2.dom _ _ hI
 have hOn:=sH2.dom _ _ hO
 have hO:H2.m ob=some ⟨⟨[.slice (some ⟨gb,go,none⟩) 1 c,.slice none 0 0,.int .i64 0,.int .i64 0]⟩,25⟩:=hO
 repeat (first|((with_reducible apply RS.nePtrNil);iterate 4 exact rfl)|((with_reducible apply RS.load1B);(iterate 3 exact rfl);first|exact hO;exact hOn;exact rfl|exact hG;exact hGn;exact hG5|exact hB;exact hBn;exact hB0|exact hI;exact hIn;exact hI0)|((with_reducible apply (RS.indexAddrS (n:=0)));(iterate 5 exact rfl);exact Nat.succ_pos _)|((with_reducible apply (RS.indexAddrS (n:=1)));(iterate 5 exact rfl);exact Nat.succ_lt_succ (Nat.succ_pos _))|refine Yl ?_|refine Yf ?_|refine Y3 ?_|refine Yj ?_|refine Y0 ?_|refine Y18 ?_|refine Y1 ?_)
 exact endsK_ret _ (.cons (.tmp rfl) .nil) fun B' a=>⟨rfl,fun j x hj=>a.up _ _ ((hB1.oldH.trans ho).up a0.dom _ _ (a0.up _ _ hj))⟩
set_option maxRecDepth 100000 in
set_option maxHeartbeats 0 in
theorem CseKeeps_tf (h:Hp) (hg:GT h) (hnt:NT h) (p:ProgS) (hok:p.ok) (hnm:∀ f∈p.funcs,f.name.data.size≤140737488351232) (P1:Option Addr) (d1:Nat) (P2:Option Addr) (d2:Nat) (hfs:SlAt h P1 6 p.funcs (funcRS h)) (hgs:SlAt h P2 4 p.globals (globR h))
 (A1:Option Addr) (k1 c1:Nat) (A2:Option Addr) (k2 c2:Nat) (A3:Option Addr) (k3 c3:Nat) (A4:Option Addr) (k4 c4:Nat) (pub sec pub' sec':List Int) (hi1:InRow h A1 k1 c1 pub) (hi2:InRow h A2 k2 c2 sec) (hi3:InRow h A3 k3 c3 pub') (hi4:InRow h A4 k4 c4 sec') :
 TF Tryd.prog 6 ⟨[.agg ⟨progC p P1 d1 P2 d2⟩,.agg ⟨[.slice A1 k1 c1,.slice A2 k2 c2]⟩,.agg ⟨[.slice A3 k3 c3,.slice A4 k4 c4]⟩]⟩ h (.bool true) h:=by
 refine TF.exact (fn:=Tryd.f6) (c:=(Tryd.f6.body.getD .skip)) Tryd.func6 (by kernel_rfl) Tryd.ntmps6 (by kernel_rfl) (fun s0=>⟨Nat.le_refl _,by simp,fun i b hb=>⟨s0.dom i b hb,s0.bd i b hb⟩⟩) fun π s0=>?_
 conv=>arg 2;whnf
 ((with_reducible apply W.seq);repeat (first|refine Y2r ?_|refine Y0 ?_|refine Y1 ?_|refine Y12 ?_))
 refine W.absorbX fun B0 π0 a0=>?_
 have m0:B0.m (π 0)=some ⟨⟨progC p P1 d1 P2 d2⟩,25⟩:=a0.loc 0 (by decide:(0:Nat) < 3)
 have m1:B0.m (π 1)=some ⟨⟨[.slice A1 k1 c1,.slice A2 k2 c2]⟩,30⟩:=a0.loc 1 (by decide:(1:Nat) < 3)
 have m2:B0.m (π 2)=some ⟨⟨[.slice A3 k3 c3,.slice A4 k4 c4]⟩,30⟩:=a0.loc 2 (by decide:(2:Nat) < 3)
 generalize π 0=pb at *
 generalize π 1=ib at *
 generalize π 2=jb at *
 have n0:=a0.dom _ _ m0
 have n1':=a0.dom _ _ m1
 have n2':=a0.dom _ _ m2
 replace hfs:=hfs.mono a0.up fun _ _ h=>funcRS_mono a0.up h
 replace hgs:=hgs.mono a0.up fun _ _ h=>globR_mono a0.up h
 replace hg:=hg.up a0.up
 replace hnt:=hnt.up a0.up
 replace hi1:=hi1.up a0.up
 replace hi2:=hi2.up a0.up
 replace hi3:=hi3.up a0.up
 replace hi4:=hi4.up a0.up
 have hpv:∀ v∈progC p P1 d1 P2 d2,bnd B0.n v:=fun v hv=>a0.sat.bd _ _ m0 v (by simpa using hv)
 have hiv:∀ v∈[Value.slice A1 k1 c1,.slice A2 k2 c2],bnd B0.n v:=fun v hv=>a0.sat.bd _ _ m1 v (by simpa using hv)
 have hov:∀ v∈[Value.slice A3 k3 c3,.slice A4 k4 c4],bnd B0.n v:=fun v hv=>a0.sat.bd _ _ m2 v (by simpa using hv)
 obtain ⟨sb,hsb⟩:∃ sb,(lightP p && rightP p && shortN k1 k2 && shortN k3 k4)=sb:=⟨_,rfl⟩
 have hsm:∀ B',(∀ i b,B0.m i=some b→B'.m i=some b)→TF Tryd.prog 9 ⟨[.agg ⟨progC p P1 d1 P2 d2⟩,.agg ⟨[.slice A1 k1 c1,.slice A2 k2 c2]⟩,.agg ⟨[.slice A3 k3 c3,.slice A4 k4 c4]⟩]⟩ B' (.bool sb) B':=by
  intro B' hu
  rw [← hsb]
  exact small_tf p hok B' P1 d1 P2 d2 (hfs.mono hu fun _ _ h=>funcR_mono hu h.r) (hgs.mono hu fun _ _ h=>globR_mono hu h) A1 k1 c1 A2 k2 c2 A3 k3 c3 A4 k4 c4
 cases sb with
 | false =>
  repeat (first|((with_reducible apply (RS.callA (g0:=26)));(iterate 3 exact rfl);exact fun B' hB'=>fit13_tf B')|refine Yz ?_|((with_reducible apply (RS.callA (g0:=9)));(iterate 3 exact rfl);exact fun B' hB'=>hsm B' hB'.up)|((with_reducible first|apply RS.assign|apply RS.not);iterate 3 exact rfl)|refine Y0 ?_|refine Y2h ?_|refine Y1 ?_|refine Y5 ?_|refine Y6 ?_)
  exact endsK_ret _ (.cons (.tmp rfl) .nil) fun B' a=>⟨rfl,fun j x hj=>a.up _ _ (a0.up _ _ hj)⟩
 | true =>
  have hlr:lightP p=true∧rightP p=true:=by
   simp only [Bool.and_eq_true] at hsb
   exact hsb.1.1
  have hLF:=light_right hok hlr.1 hlr.2
  have hIn:=right_ins hok hlr.2
  have hLp:=lightP_all hlr.1
  have hnf:p.funcs.length≤10000:=by have:=hLp.nf;omega
  have hK:∀ f∈p.funcs,(OkL f.regs f.blocks∧InsOK f)∧CopyOK f:=fun f hf=>⟨⟨(hLF f hf).1,hIn f hf⟩,(hLF f hf).2⟩
  have hSh:=light_showOK hok hlr.1 hlr.2 hnm
  have hsz:=light_psize hok hlr.1 hlr.2
  obtain ⟨tx,htx⟩:∃ tx,progT p.funcs=tx:=⟨_,rfl⟩
  have hSw:∀ B',(∀ i b,B0.m i=some b→B'.m i=some b)→TF Tryd.prog 25 ⟨[.agg ⟨progC p P1 d1 P2 d2⟩]⟩ B' (.string tx) B':=by
   intro B' hu
   rw [← htx]
   exact progT_tf p (by omega) hSh P1 d1 P2 d2 B' (hg.up hu) (hnt.up hu) (hfs.mono hu fun _ _ h=>funcRS_mono hu h)
  have hKeep:∀ (H1:Hp) (ob:Nat) (A:Option Addr) (c:Nat) (fs:List FuncS),(∀ i b,B0.m i=some b→H1.m i=some b)→H1.m ob=some ⟨⟨progC { p with funcs:=fs } A c P2 d2⟩,25⟩→SlAt H1 A 6 fs (funcRS H1)→fs.length=p.funcs.length→(∀ (i:Nat) (f f':FuncS),p.funcs[i]?=some f→fs[i]?=some f'→CseR f f') →
   TF Tryd.prog 33 ⟨[.agg ⟨progC p P1 d1 P2 d2⟩,.pointer (some ⟨ob,0,none⟩),.string tx,.agg ⟨[.slice A1 k1 c1,.slice A2 k2 c2]⟩,.agg ⟨[.slice A3 k3 c3,.slice A4 k4 c4]⟩]⟩ H1 (.bool true) H1:=by
   intro H1 ob A c fs up1 hO hS hfl hR
   rw [← htx]
   have hT:TurnP CseR p { p with funcs:=fs }:=⟨rfl,rfl,rfl,hfl,hR⟩
   exact Keeps_tf p _ hok hLp hlr.2 hSh hsz (cse_keeps hT hok hlr.1 hlr.2) H1 (hg.up up1) (hnt.up up1) P1 d1 P2 d2 (hfs.mono up1 fun _ _ h=>funcRS_mono up1 h) (hgs.mono up1 fun _ _ h=>globR_mono up1 h) ob _ A c P2 d2 ⟨hO,hS.mono (fun _ _ h=>h) fun _ _ h=>h.r,hgs.mono up1 fun _ _ h=>globR_mono up1 h⟩
    A1 k1 c1 A2 k2 c2 A3 k3 c3 A4 k4 c4 pub sec pub' sec' (hi1.up up1) (hi2.up up1) (hi3.up up1) (hi4.up up1)
  clear htx
  ((with_reducible apply W.seq);repeat (fail))
  ((with_reducible apply W.seq);repeat (first|((with_reducible apply (RS.callA (g0:=26)));(iterate 3 exact rfl);exact fun B' hB'=>fit13_tf B')|((with_reducible apply RS.not);iterate 3 exact rfl)|refine Y0 ?_|refine Y1 ?_|refine Y2z ?_|refine Y6 ?_))
  ((with_reducible apply W.seq);repeat (fail))
  ((with_reducible apply W.seq);repeat (first|refine Yz ?_|((with_reducible apply (RS.callA (g0:=9)));(iterate 3 exact rfl);exact fun B' hB'=>hsm B' hB'.up)|((with_reducible apply RS.not);iterate 3 exact rfl)|refine Y0 ?_|refine Y1 ?_|refine Y2z ?_|refine Y6 ?_))
  ((with_reducible apply W.seq);repeat (first|refine Y3g ?_|((with_reducible apply (RS.callA (g0:=25)));(iterate 3 exact rfl);exact fun B' hB'=>hSw B' hB'.up)|refine Y14 ?_|refine Y0 ?_|refine Y1 ?_|refine Y12 ?_))
  ((with_reducible apply W.seq);repeat (first|refine Yz ?_|((with_reducible apply RS.moveX);(iterate 3 exact rfl);exact (show bnd B0.n (.string tx) by simp))|((with_reducible apply (RS.callY (g0:=29)));(iterate 4 exact rfl);intro B1 he1 hB1;refine ⟨_,cse_prog_ex p hK (by omega) B1 pb _ _ _ _ _ (hB1.up _ _ m0) (hfs.mono hB1.up fun _ _ h=>funcRS_mono hB1.up h),(fun v H' ⟨_,_,_,_,_,_,_,_,_,ho,_⟩ i hi=>ho.2 i (Nat.lt_of_lt_of_le hi hB1.le)),?_⟩;rintro v H1 j1 l1 ⟨ob,A,c,fs,rfl,hO,hS,hfl,hR,ho,hlo⟩ sH1 hle1 hden1 hwf1 hk1)|((with_reducible apply (RS.callY (g0:=33)));(iterate 4 exact rfl);intro B5 he5 hB5;rw [hden1] at he5;subst he5;refine ⟨_,TF.ex (hKeep H1 ob A c fs ((hB1.oldH.trans ho).up a0.dom) hO hS hfl hR),(fun v H' ⟨_,e⟩ i hi=>by rw [e]),?_⟩;rintro v H5 j5 l5 ⟨rfl,rfl⟩ sH5 hle5 hden5 hwf5 hk5)|((with_reducible apply (RS.nilP mixed [(0,1),(1,2),(0,2),(2,3),(1,3),(0,3),(3,4),(2,4),(1,4),(0,4)]));kernel_rfl;(have q7:0≤j1:=hk1);(repeat (refine ⟨fun x y hx hy=>(by obtain rfl:=Option.some.inj hx;obtain rfl:=Option.some.inj hy;(first|exact pairR_pre rfl rfl rfl rfl rfl rfl rfl (by simp only [recY,recP];omega)|exact pairR_calm rfl rfl rfl rfl rfl rfl rfl (by simp only [recY,recP];omega) (fun j hj=>by (first|(simp [recY,recP] at hj;done)|(simp [recY,recP] at hj ⊢;omega))) (by first|exact .inl rfl|exact .inr ⟨rfl,rfl⟩))),?_⟩));exact trivial;exact rfl)|refine Y14 ?_|refine Y1 ?_|(with_reducible first|apply W.ret|apply thenK_n)))
  exact endsK_ret _ (.cons (.tmp rfl) .nil) fun B' a=>⟨rfl,fun j x hj=>a.up _ _ (a0.up _ _ hj)⟩
variable {H:Type} {enc:TypeId × Value→H} {G:Nat} {g0:Nat→Option Blk} {W:World}
theorem RowΦ_list {T:Type} {R:Hp→List Value→T→Prop} {K:T→Prop} {w M:Nat} {h:Hp} {acs:List Value} (hr:RowΦ w M (fun h a=>∃ x,R h a x∧K x) h acs) :
 ∃ (A:Option Addr) (c:Nat) (l:List T),acs=[.slice A l.length c]∧SlAt h A w l (R h)∧(∀ x∈l,K x)∧l.length≤M∧l.length≤c∧c < capMark∧(A=none→c=0):=by
 obtain ⟨A,c,accs,e,r,h1,h2,h3,h4⟩:=hr
 have build:∀ al:List (List Value),(∀ a∈al,∃ x,R h a x∧K x)→∃ l:List T,l.length=al.length∧(∀ x∈l,K x)∧∀ (i:Nat) (x:T),l[i]?=some x→∃ a,al[i]?=some a∧R h a x:=by
  intro al
  induction al with
  | nil=>intro _;exact ⟨[],rfl,(fun x hx=>by cases hx),fun i x hx=>by simp at hx⟩
  | cons a al ih =>
   intro ha
   obtain ⟨x,hx,hk⟩:=ha a (by simp)
   obtain ⟨l,q1,q2,q3⟩:=ih fun b hb=>ha b (by simp [hb])
   refine ⟨x::l,by simp [q1],fun y hy=>?_,fun i y hy=>?_⟩
   ·rcases List.mem_cons.1 hy with rfl|hy
    ·exact hk
    ·exact q2 y hy
   ·cases i with
    | zero=>simp at hy;subst hy;exact ⟨a,rfl,hx⟩
    | succ i=>simpa using q3 i y (by simpa using hy)
 obtain ⟨l,q1,q2,q3⟩:=build accs fun a ha=>(r.all a ha).1
 refine ⟨A,c,l,by rw [q1];exact e,⟨fun i x hx=>?_⟩,q2,by omega,by omega,h3,h4⟩
 obtain ⟨a,ha,hR⟩:=q3 i x hx
 have ham:=List.mem_of_getElem? ha
 obtain ⟨b,e',hA,hb⟩:=r.at_ (fun hn=>by rw [hn] at ham;cases ham)
 have hwid:∀ x∈accs,x.length=w:=fun x hx=>(r.all x hx).2
 have hi:=(List.getElem?_eq_some_iff.1 ha).1
 refine ⟨b,0,accs.flatten,e',hA,hb,?_,?_⟩
 ·rw [flat_len hwid]
  have:(i+1) * w≤accs.length * w:=Nat.mul_le_mul_right _ hi
  rw [Nat.succ_mul] at this;omega
 ·have:takeV (0+i * w) w accs.flatten=a:=by
   rw [takeV_eq]
   apply List.ext_getElem?
   intro j
   rw [List.getElem?_take]
   by_cases hj:j < w
   ·rw [if_pos hj,List.getElem?_drop,Nat.zero_add,flat_get hwid i j hj,ha];rfl
   ·rw [if_neg hj,List.getElem?_eq_none (by rw [hwid a ham];omega)]
  rw [this];exact hR
theorem i64_fit {n:Int} (h1:IntKind.i64.min≤n) (h2:n≤IntKind.i64.max):fitI n:=by
 have e1:IntKind.i64.min=-9223372036854775808:=by decide
 have e2:IntKind.i64.max=9223372036854775807:=by decide
 rw [e1] at h1;rw [e2] at h2
 exact ⟨h1,h2⟩
def intΦ (_:Hp) (acs:List Value):Prop:=∃ n,acs=[.int .i64 n]∧fitI n
theorem D_int {t:TypeId} {cs:List Value} (ht:Tryd.prog.underlying t=some (.int .i64)) (h:TW enc Tryd.prog W t cs):D G g0 W cs 0 intΦ:=(D.int ht h).mono (Nat.le_refl _) fun _ _ _ ⟨n,e,h1,h2⟩=>⟨n,e,i64_fit h1 h2⟩
theorem up_int:UpΦ intΦ:=fun _ _ _ _ h=>h
def argΦ (_:Hp) (acs:List Value):Prop:=∃ a,argR acs a∧ArgS.ok a
theorem up_arg:UpΦ argΦ:=fun _ _ _ _ h=>h
theorem D_arg {cs:List Value} (h:TW enc Tryd.prog W 46 cs):D G g0 W cs 0 argΦ:=by
 obtain ⟨hl,hf⟩:=h.fields (l:=[(3,0,1),(2,1,1)]) (n:=2) (by kernel_rfl) (by kernel_rfl)
 have:=SegD.d (g0:=g0) (G:=G) (off:=0) (cs:=cs) (W:=W) (l:=[(1,0,intΦ),(1,0,intΦ)]) ⟨up_int,D_int (by kernel_rfl) (hf (3,0,1) (by simp)),up_int,D_int (by kernel_rfl) (hf (2,1,1) (by simp)),hl⟩
 refine D.mono this (by simp [segN]) ?_
 rintro H acs _ ⟨_,_,rfl,⟨a,rfl,ha⟩,_,_,rfl,⟨b,rfl,hb⟩,rfl⟩
 exact ⟨⟨a,b⟩,rfl,ha,hb⟩
def argsΦ:Hp→List Value→Prop:=RowΦ 2 reachBytes argΦ
def insΦ (h:Hp) (acs:List Value):Prop:=∃ x,insR h acs x∧InsS.ok x
theorem up_ins:UpΦ insΦ:=fun _ _ _ hm ⟨x,hx,hk⟩=>⟨x,insR_mono hm hx,hk⟩
def boolΦ (_:Hp) (acs:List Value):Prop:=∃ b,acs=[.bool b]
theorem up_bool:UpΦ boolΦ:=fun _ _ _ _ h=>h
def strΦ (_:Hp) (acs:List Value):Prop:=∃ s:ByteArray,acs=[.string s]∧s.size≤reachBytes
theorem up_str:UpΦ strΦ:=fun _ _ _ _ h=>h
theorem D_ins {cs:List Value} (h:TW enc Tryd.prog W 58 cs):D G g0 W cs 1 insΦ:=by
 obtain ⟨hl,hf⟩:=h.fields (l:=[(3,0,1),(3,1,1),(46,2,2),(46,4,2),(3,6,1),(4,7,1),(4,8,1),(3,9,1),(2,10,1),(54,11,1)]) (n:=12) (by kernel_rfl) (by kernel_rfl)
 have:=SegD.d (g0:=g0) (G:=G) (off:=0) (cs:=cs) (W:=W) (l:=[(1,0,intΦ),(1,0,intΦ),(2,0,argΦ),(2,0,argΦ),(1,0,intΦ),(1,0,boolΦ),(1,0,boolΦ),(1,0,intΦ),(1,0,intΦ),(1,reachBytes * 0+1,argsΦ)])
  ⟨up_int,D_int (by kernel_rfl) (hf (3,0,1) (by simp)),up_int,D_int (by kernel_rfl) (hf (3,1,1) (by simp)),up_arg,D_arg (hf (46,2,2) (by simp)),up_arg,D_arg (hf (46,4,2) (by simp)),up_int,D_int (by kernel_rfl) (hf (3,6,1) (by simp)),up_bool,D.bool (by kernel_rfl) (hf (4,7,1) (by simp)),up_bool,D.bool (by kernel_rfl) (hf (4,8,1) (by simp)),up_int,D_int (by kernel_rfl) (hf (3,9,1) (by simp)),up_int,D_int (by kernel_rfl) (hf (2,10,1) (by simp)),RowΦ.up up_arg,D.row (e:=46) up_arg (by kernel_rfl) (by kernel_rfl) (by decide) (Nat.le_of_ble_eq_true (by kernel_rfl)) (fun c hc=>D_arg hc) (hf (54,11,1) (by simp)),hl⟩
 refine D.mono this (by simp [segN]) ?_
 rintro H acs _ ⟨_,_,rfl,⟨op,rfl,h1⟩,_,_,rfl,⟨dst,rfl,h2⟩,_,_,rfl,⟨a,rfl,h3⟩,_,_,rfl,⟨b,rfl,h4⟩,_,_,rfl,⟨size,rfl,h5⟩,_,_,rfl,⟨sg,rfl⟩,_,_,rfl,⟨sc,rfl⟩,_,_,rfl,⟨ref,rfl,h6⟩,_,_,rfl,⟨off,rfl,h7⟩,_,_,rfl,hr,rfl⟩
 obtain ⟨A,c,l,rfl,hs,hk,hn,_⟩:=RowΦ_list (R:=fun _=>argR) hr
 exact ⟨⟨op,dst,a,b,size,sg,sc,ref,off,l⟩,⟨A,c,rfl,hs⟩,h1,h2,h3,h4,h5,h6,h7,Nat.le_trans hn (by decide),hk⟩
def termΦ (_:Hp) (acs:List Value):Prop:=∃ t,acs=termC t∧TermS.ok t
theorem up_term:UpΦ termΦ:=fun _ _ _ _ h=>h
theorem D_term {cs:List Value} (h:TW enc Tryd.prog W 48 cs):D G g0 W cs 0 termΦ:=by
 obtain ⟨hl,hf⟩:=h.fields (l:=[(3,0,1),(3,1,1),(46,2,2),(46,4,2),(3,6,1),(3,7,1)]) (n:=8) (by kernel_rfl) (by kernel_rfl)
 have:=SegD.d (g0:=g0) (G:=G) (off:=0) (cs:=cs) (W:=W) (l:=[(1,0,intΦ),(1,0,intΦ),(2,0,argΦ),(2,0,argΦ),(1,0,intΦ),(1,0,intΦ)])
  ⟨up_int,D_int (by kernel_rfl) (hf (3,0,1) (by simp)),up_int,D_int (by kernel_rfl) (hf (3,1,1) (by simp)),up_arg,D_arg (hf (46,2,2) (by simp)),up_arg,D_arg (hf (46,4,2) (by simp)),up_int,D_int (by kernel_rfl) (hf (3,6,1) (by simp)),up_int,D_int (by kernel_rfl) (hf (3,7,1) (by simp)),hl⟩
 refine D.mono this (by simp [segN]) ?_
 rintro H acs _ ⟨_,_,rfl,⟨k,rfl,h1⟩,_,_,rfl,⟨op,rfl,h2⟩,_,_,rfl,⟨a,rfl,h3⟩,_,_,rfl,⟨b,rfl,h4⟩,_,_,rfl,⟨g,rfl,h5⟩,_,_,rfl,⟨e,rfl,h6⟩,rfl⟩
 exact ⟨⟨k,op,a,b,g,e⟩,rfl,h1,h2,h3,h4,h5,h6⟩
def blockΦ (h:Hp) (acs:List Value):Prop:=∃ x,blockR h acs x∧BlockS.ok x
theorem up_block:UpΦ blockΦ:=fun _ _ _ hm ⟨x,hx,hk⟩=>⟨x,blockR_mono hm hx,hk⟩
theorem D_block {cs:List Value} (h:TW enc Tryd.prog W 50 cs):D G g0 W cs (reachBytes * 1+1) blockΦ:=by
 obtain ⟨hl,hf⟩:=h.fields (l:=[(44,0,1),(48,1,8)]) (n:=9) (by kernel_rfl) (by kernel_rfl)
 have:=SegD.d (g0:=g0) (G:=G) (off:=0) (cs:=cs) (W:=W) (l:=[(1,reachBytes * 1+1,RowΦ 12 reachBytes insΦ),(8,0,termΦ)])
  ⟨RowΦ.up up_ins,D.row (e:=58) up_ins (by kernel_rfl) (by kernel_rfl) (by decide) (Nat.le_of_ble_eq_true (by kernel_rfl)) (fun c hc=>D_ins hc) (hf (44,0,1) (by simp)),up_term,D_term (hf (48,1,8) (by simp)),hl⟩
 refine D.mono this (by simp [segN]) ?_
 rintro H acs _ ⟨_,_,rfl,hr,_,_,rfl,⟨t,rfl,ht⟩,rfl⟩
 obtain ⟨A,c,l,rfl,hs,hk,hn,_⟩:=RowΦ_list (R:=insR) hr
 exact ⟨⟨l,t⟩,⟨A,c,rfl,hs⟩,Nat.le_trans hn (by decide),hk,ht⟩
def funcΦ (h:Hp) (acs:List Value):Prop:=∃ x,funcR h acs x∧FuncS.ok x
def nFunc:Nat:=1+1+(reachBytes * (reachBytes * 1+1)+1)
def byteΦ (_:Hp) (acs:List Value):Prop:=∃ n,byteR acs n∧(0≤n∧n≤255)
theorem up_byte:UpΦ byteΦ:=fun _ _ _ _ h=>h
theorem D_byte {cs:List Value} (h:TW enc Tryd.prog W 5 cs):D G g0 W cs 0 byteΦ:=(D.int (k:=.u8) (by kernel_rfl) h).mono (Nat.le_refl _) fun _ _ _ ⟨n,e,h1,h2⟩=>by
 have e1:IntKind.u8.min=0:=by decide
 have e2:IntKind.u8.max=255:=by decide
 rw [e1] at h1;rw [e2] at h2
 exact ⟨n,e,h1,h2⟩
def partΦ (h:Hp) (acs:List Value):Prop:=∃ x,partR h acs x∧PartS.ok x
theorem up_part:UpΦ partΦ:=fun _ _ _ hm ⟨x,hx,hk⟩=>⟨x,partR_mono hm hx,hk⟩
theorem D_part {cs:List Value} (h:TW enc Tryd.prog W 113 cs):D G g0 W cs 1 partΦ:=by
 obtain ⟨hl,hf⟩:=h.fields (l:=[(3,0,1),(28,1,1),(3,2,1)]) (n:=3) (by kernel_rfl) (by kernel_rfl)
 have:=SegD.d (g0:=g0) (G:=G) (off:=0) (cs:=cs) (W:=W) (l:=[(1,0,intΦ),(1,reachBytes * 0+1,RowΦ 1 reachBytes byteΦ),(1,0,intΦ)])
  ⟨up_int,D_int (by kernel_rfl) (hf (3,0,1) (by simp)),RowΦ.up up_byte,D.row (e:=5) up_byte (by kernel_rfl) (by kernel_rfl) (by decide) (Nat.le_of_ble_eq_true (by kernel_rfl)) (fun c hc=>D_byte hc) (hf (28,1,1) (by simp)),up_int,D_int (by kernel_rfl) (hf (3,2,1) (by simp)),hl⟩
 refine D.mono this (by simp [segN]) ?_
 rintro H acs _ ⟨_,_,rfl,⟨k,rfl,h1⟩,_,_,rfl,hr,_,_,rfl,⟨n,rfl,h2⟩,rfl⟩
 obtain ⟨A,c,l,rfl,hs,hk,hn,_⟩:=RowΦ_list (R:=fun _=>byteR) hr
 exact ⟨⟨k,l,n⟩,⟨A,c,rfl,hs⟩,h1,h2,Nat.le_trans hn (by decide),hk⟩
def globΦ (h:Hp) (acs:List Value):Prop:=∃ x,globR h acs x∧GlobS.ok x
theorem up_glob:UpΦ globΦ:=fun _ _ _ hm ⟨x,hx,hk⟩=>⟨x,globR_mono hm hx,hk⟩
theorem D_glob {cs:List Value} (h:TW enc Tryd.prog W 111 cs):D G g0 W cs (reachBytes * 1+1) globΦ:=by
 obtain ⟨hl,hf⟩:=h.fields (l:=[(9,0,1),(3,1,1),(3,2,1),(109,3,1)]) (n:=4) (by kernel_rfl) (by kernel_rfl)
 have:=SegD.d (g0:=g0) (G:=G) (off:=0) (cs:=cs) (W:=W) (l:=[(1,0,strΦ),(1,0,intΦ),(1,0,intΦ),(1,reachBytes * 1+1,RowΦ 3 reachBytes partΦ)])
  ⟨up_str,D.string (by kernel_rfl) (hf (9,0,1) (by simp)),up_int,D_int (by kernel_rfl) (hf (3,1,1) (by simp)),up_int,D_int (by kernel_rfl) (hf (3,2,1) (by simp)),RowΦ.up up_part,D.row (e:=113) up_part (by kernel_rfl) (by kernel_rfl) (by decide) (Nat.le_of_ble_eq_true (by kernel_rfl)) (fun c hc=>D_part hc) (hf (109,3,1) (by simp)),hl⟩
 refine D.mono this (by simp [segN]) ?_
 rintro H acs _ ⟨_,_,rfl,⟨nm,rfl,_⟩,_,_,rfl,⟨pl,rfl,h1⟩,_,_,rfl,⟨sz,rfl,h2⟩,_,_,rfl,hr,rfl⟩
 obtain ⟨A,c,l,rfl,hs,hk,hn,_⟩:=RowΦ_list (R:=partR) hr
 exact ⟨⟨nm,pl,sz,l⟩,⟨A,c,rfl,hs⟩,h1,h2,Nat.le_trans hn (by decide),hk⟩
def progΦ (h:Hp) (acs:List Value):Prop:=∃ x,progR h acs x∧ProgS.ok x
def nProg:Nat:=reachBytes * nFunc+1+(reachBytes * (reachBytes * 1+1)+1)
end Go.Proofs.YtjhloakacicdiaaDoor
namespace Go.Proofs.YtjhloakacicdiaaDoor
open Go.AH Go.ChangeShapes Go.WideShapes Go.ChangeAt Go.RowKit
variable {H:Type} {enc:TypeId × Value→H} {W:World} {G:Nat} {g0:Nat→Option Blk}
theorem okWide_slot {P:Program} {r:Go.Reach} {base:Nat} {t u:TypeId} {ts:List TypeId} {cs:Array Value} {a:Addr} {n c i:Nat} {e:TypeId} (hs:∃ fs,P.underlying t=some (.struct fs)) (ht:P.cellTypes P.depth t=some ts) (h:Value.okWide P W r base t (.agg cs)) (hi:cs[i]?=some (.slice (some a) n c)) (hu:ts[i % ts.length]?=some u) (he:P.underlying u=some (.slice e)):a.spot=none:=by
 obtain ⟨fs,hs⟩:=hs
 simp only [Value.okWide,hs] at h
 obtain ⟨cs',h1,_,ts',h2,_,h3⟩:=h
 injection h1 with h1
 subst h1
 rw [ht] at h2
 injection h2 with h2
 subst h2
 obtain ⟨u',h4,h5⟩:=h3 i _ hi
 rw [hu] at h4
 injection h4 with h4
 subst h4
 simp only [Cell.okWide,Cell.ok,he] at h5
 exact h5.2.2.2.1
theorem trodAll_below {P:Program} (hl:laidOutB P=true) {W W':World} (hb:Below W.heap.size W W'):∀ {ts:List TypeId} {vs:List Value} {ds:List (DataW H)} {ps:List MemPlace},(∀ t∈ts,P.readableRec t=true∧t < P.types.size)→(∀ x∈ps,x.block < W.heap.size)→DataW.TrodAll enc P W 0 (fun _=>true) true ts vs ds ps→DataW.TrodAll enc P W' 0 (fun b=>decide (b < W.heap.size)) true ts vs ds ps:=by
 intro ts
 induction ts with
 | nil =>
  intro vs ds ps _ _ h
  cases vs with
  | nil=>cases ds with
   | nil=>exact h
   | cons d ds=>exact h.elim
  | cons v vs=>exact h.elim
 | cons t ts ih =>
  intro vs ds ps ht hx h
  cases vs with
  | nil=>exact h.elim
  | cons v vs =>
   cases ds with
   | nil=>exact h.elim
   | cons d ds =>
    obtain ⟨p,q,h1,h2,rfl⟩:=h
    exact ⟨p,q,Below.trod hl (ht t (by simp)).1 (ht t (by simp)).2 h1 hb fun x hx'=>hx x (by simp [hx']),ih (fun t ht'=>ht t (by simp [ht'])) (fun x hx'=>hx x (by simp [hx'])) h2,rfl⟩
theorem Tryd.own:ownKnob Tryd.prog.godebug=none:=by kernel_rfl
theorem Tryd.laidOut:laidOutB Tryd.prog=true:=by kernel_rfl
theorem TW.of {P:Program} {W:World} {t:TypeId} {v:Value} {d:DataW H} {p:List MemPlace} (h:DataW.Trod enc P W 0 (fun _=>true) true t v d p) (hw:okW (d.weights P t)):TW enc P W t v.cells.toList:=by
 obtain ⟨fuel,h⟩:=h
 exact ⟨fuel,(d,p),h,hw⟩
theorem shutB {P:Program} {W:World} {base:Nat} {sp:Nat→Bool} {held:Bool} {t:TypeId} {b:Bool} (ht:P.underlying t=some .bool):DataW.Trod enc P W base sp held t (.bool b) (.lit (.bool b)) []:=⟨1,by simp [DataW.trod,Value.cells,ht]⟩
end Go.Proofs.YtjhloakacicdiaaDoor
namespace Go.Proofs.YtjhloakacicdiaaDoor
open Go.AH Go.ChangeShapes Go.WideShapes Go.ChangeAt Go.RowKit
variable {H:Type} {enc:TypeId × Value→H} {W:World} {G:Nat} {g0:Nat→Option Blk}
def inpΦ (h:Hp) (acs:List Value):Prop:=∃ A1 n1 c1 A2 n2 c2 pub sec,acs=[.slice A1 n1 c1,.slice A2 n2 c2]∧((∀ a,A1=some a→a.spot=none)→InRow h A1 n1 c1 pub)∧((∀ a,A2=some a→a.spot=none)→InRow h A2 n2 c2 sec)
theorem up_inp:UpΦ inpΦ:=fun _ _ _ hm ⟨A1,n1,c1,A2,n2,c2,pub,sec,e,h1,h2⟩=>⟨A1,n1,c1,A2,n2,c2,pub,sec,e,fun h=>(h1 h).up hm,fun h=>(h2 h).up hm⟩
theorem D_input {cs:List Value} (h:TW enc Tryd.prog W 30 cs):D G g0 W cs 2 inpΦ:=by
 obtain ⟨hl,hf⟩:=h.fields (l:=[(28,0,1),(28,1,1)]) (n:=2) (by kernel_rfl) (by kernel_rfl)
 have:=SegD.d (g0:=g0) (G:=G) (off:=0) (cs:=cs) (W:=W) (l:=[(1,reachBytes * 0+1,RowΦ 1 reachBytes byteΦ),(1,reachBytes * 0+1,RowΦ 1 reachBytes byteΦ)])
  ⟨RowΦ.up up_byte,D.row (e:=5) up_byte (by kernel_rfl) (by kernel_rfl) (by decide) (Nat.le_of_ble_eq_true (by kernel_rfl)) (fun c hc=>D_byte hc) (hf (28,0,1) (by simp)),RowΦ.up up_byte,D.row (e:=5) up_byte (by kernel_rfl) (by kernel_rfl) (by decide) (Nat.le_of_ble_eq_true (by kernel_rfl)) (fun c hc=>D_byte hc) (hf (28,1,1) (by simp)),hl⟩
 refine D.mono this (by simp [segN]) ?_
 rintro H acs _ ⟨_,_,rfl,hr1,_,_,rfl,hr2,rfl⟩
 obtain ⟨A1,c1,l1,rfl,hs1,hk1,hn1,hc1,hm1,hz1⟩:=RowΦ_list (R:=fun _=>byteR) hr1
 obtain ⟨A2,c2,l2,rfl,hs2,hk2,hn2,hc2,hm2,hz2⟩:=RowΦ_list (R:=fun _=>byteR) hr2
 exact ⟨A1,l1.length,c1,A2,l2.length,c2,l1,l2,rfl,fun h=>⟨hs1,rfl,hc1,hm1,hz1,h⟩,fun h=>⟨hs2,rfl,hc2,hm2,hz2,h⟩⟩
open Go.AH
variable {H:Type} {enc:TypeId × Value→H} {G:Nat} {g0:Nat→Option Blk} {W:World}
def boolΨ (_:Hp) (acs:List Value):Prop:=∃ b,boolR acs b∧True
theorem up_boolΨ:UpΦ boolΨ:=fun _ _ _ _ h=>h
theorem D_boolΨ {cs:List Value} (h:TW enc Tryd.prog W 4 cs):D G g0 W cs 0 boolΨ:=(D.bool (by kernel_rfl) h).mono (Nat.le_refl _) fun _ _ _ ⟨b,e⟩=>⟨b,e,trivial⟩
def funcΨ (h:Hp) (acs:List Value):Prop:=∃ x,funcRS h acs x∧FuncS.ok x
def progΨ (h:Hp) (acs:List Value):Prop:=∃ p A1 c1 A2 c2,acs=progC p A1 c1 A2 c2∧SlAt h A1 6 p.funcs (funcRS h)∧SlAt h A2 4 p.globals (globR h)∧p.ok
variable {H:Type} {enc:TypeId × Value→H} {G:Nat} {g0:Nat→Option Blk} {W:World}
def funcN (h:Hp) (acs:List Value):Prop:=∃ x,funcRS h acs x∧FuncS.ok x∧x.name.data.size≤140737488351232
theorem up_funcN:UpΦ funcN:=fun _ _ _ hm ⟨x,hx,hk⟩=>⟨x,funcRS_mono hm hx,hk⟩
theorem D_funcN {cs:List Value} (h:TW enc Tryd.prog W 37 cs):D G g0 W cs nFunc funcN:=by
 obtain ⟨hl,hf⟩:=h.fields (l:=[(9,0,1),(3,1,1),(33,2,1),(3,3,1),(34,4,1),(35,5,1)]) (n:=6) (by kernel_rfl) (by kernel_rfl)
 have:=SegD.d (g0:=g0) (G:=G) (off:=0) (cs:=cs) (W:=W) (l:=[(1,0,strΦ),(1,0,intΦ),(1,reachBytes * 0+1,RowΦ 1 reachBytes boolΨ),(1,0,intΦ),(1,reachBytes * 0+1,RowΦ 1 reachBytes intΦ),(1,reachBytes * (reachBytes * 1+1)+1,RowΦ 9 reachBytes blockΦ)])
  ⟨up_str,D.string (by kernel_rfl) (hf (9,0,1) (by simp)),up_int,D_int (by kernel_rfl) (hf (3,1,1) (by simp)),RowΦ.up up_boolΨ,D.row (e:=4) up_boolΨ (by kernel_rfl) (by kernel_rfl) (by decide) (Nat.le_of_ble_eq_true (by kernel_rfl)) (fun c hc=>D_boolΨ hc) (hf (33,2,1) (by simp)),up_int,D_int (by kernel_rfl) (hf (3,3,1) (by simp)),RowΦ.up up_int,D.row (e:=3) up_int (by kernel_rfl) (by kernel_rfl) (by decide) (Nat.le_of_ble_eq_true (by kernel_rfl)) (fun c hc=>D_int (by kernel_rfl) hc) (hf (34,4,1) (by simp)),RowΦ.up up_block,D.row (e:=50) up_block (by kernel_rfl) (by kernel_rfl) (by decide) (Nat.le_of_ble_eq_true (by kernel_rfl)) (fun c hc=>D_block hc) (hf (35,5,1) (by simp)),hl⟩
 refine D.mono this (by simp [segN,nFunc];omega) ?_
 rintro H acs _ ⟨_,_,rfl,⟨nm,rfl,hnm⟩,_,_,rfl,⟨pa,rfl,h1⟩,_,_,rfl,hr1,_,_,rfl,⟨rg,rfl,h2⟩,_,_,rfl,hr2,_,_,rfl,hr3,rfl⟩
 obtain ⟨A1,c1,l1,rfl,hs1,_,hn1,_⟩:=RowΦ_list (R:=fun _=>boolR) (K:=fun _=>True) hr1
 obtain ⟨A2,c2,l2,rfl,hs2,hk2,hn2,_⟩:=RowΦ_list (R:=fun _=>intR) (K:=fitI) hr2
 obtain ⟨A3,c3,l3,rfl,hs3,hk3,hn3,_⟩:=RowΦ_list (R:=blockR) hr3
 exact ⟨⟨nm,pa,l1.length,rg,l2,l3⟩,⟨A1,c1,A2,c2,A3,c3,l1,rfl,rfl,hs1,hs2,hs3⟩,⟨h1,h2,Nat.le_trans hn1 (by decide),Nat.le_trans hn2 (by decide),hk2,Nat.le_trans hn3 (by decide),hk3⟩,hnm⟩
def progN (h:Hp) (acs:List Value):Prop:=∃ p A1 c1 A2 c2,acs=progC p A1 c1 A2 c2∧SlAt h A1 6 p.funcs (funcRS h)∧SlAt h A2 4 p.globals (globR h)∧p.ok∧∀ f∈p.funcs,f.name.data.size≤140737488351232
theorem up_progN:UpΦ progN:=fun _ _ _ hm ⟨p,A1,c1,A2,c2,e,h1,h2,h3⟩=>⟨p,A1,c1,A2,c2,e,h1.mono hm fun _ _ h=>funcRS_mono hm h,h2.mono hm fun _ _ h=>globR_mono hm h,h3⟩
theorem D_progN {cs:List Value} (h:TW enc Tryd.prog W 25 cs):D G g0 W cs nProg progN:=by
 obtain ⟨hl,hf⟩:=h.fields (l:=[(22,0,1),(23,1,1),(3,2,1),(3,3,1)]) (n:=4) (by kernel_rfl) (by kernel_rfl)
 have:=SegD.d (g0:=g0) (G:=G) (off:=0) (cs:=cs) (W:=W) (l:=[(1,reachBytes * nFunc+1,RowΦ 6 reachBytes funcN),(1,reachBytes * (reachBytes * 1+1)+1,RowΦ 4 reachBytes globΦ),(1,0,intΦ),(1,0,intΦ)])
  ⟨RowΦ.up up_funcN,D.row (e:=37) up_funcN (by kernel_rfl) (by kernel_rfl) (by decide) (Nat.le_of_ble_eq_true (by kernel_rfl)) (fun c hc=>D_funcN hc) (hf (22,0,1) (by simp)),RowΦ.up up_glob,D.row (e:=111) up_glob (by kernel_rfl) (by kernel_rfl) (by decide) (Nat.le_of_ble_eq_true (by kernel_rfl)) (fun c hc=>D_glob hc) (hf (23,1,1) (by simp)),up_int,D_int (by kernel_rfl) (hf (3,2,1) (by simp)),up_int,D_int (by kernel_rfl) (hf (3,3,1) (by simp)),hl⟩
 refine D.mono this (by simp [segN,nProg]) ?_
 rintro H acs _ ⟨_,_,rfl,hr1,_,_,rfl,hr2,_,_,rfl,⟨d,rfl,h1⟩,_,_,rfl,⟨m,rfl,h2⟩,rfl⟩
 obtain ⟨A1,c1,l1,rfl,hs1,hk1,hn1,_⟩:=RowΦ_list (R:=funcRS) hr1
 obtain ⟨A2,c2,l2,rfl,hs2,hk2,hn2,_⟩:=RowΦ_list (R:=globR) hr2
 exact ⟨⟨l1,l2,d,m⟩,A1,c1,A2,c2,rfl,hs1,hs2,⟨Nat.le_trans hn1 (by decide),fun f hf=>(hk1 f hf).1,Nat.le_trans hn2 (by decide),hk2,h1,h2⟩,fun f hf=>(hk1 f hf).2⟩
end Go.Proofs.YtjhloakacicdiaaDoor
namespace Go.Proofs.YtjhloakacicdiaaDoor
open Go Go.AH Go.RowKit
theorem strs_of_tab {H:Type} {enc:TypeId × Value→H} {P:Program} {w:World} {base:Nat} {sp:Nat→Bool} {held:Bool} {fuel:Nat} {t e:TypeId} {n:Nat} {cs:List Value} {zs:List ByteArray} {p:List MemPlace}
 (ht:P.underlying t=some (.array n e)) (he:P.underlying e=some .string) (hce:P.cellsOf e=1) (hct:P.cellsOf t=n)
 (h:DataW.trod enc P w base sp held fuel t cs=some (.agg (zs.map fun z=>.lit (.string z.data.toList)),p)):cs=zs.map Value.string:=by
 cases fuel with
 | zero=>simp [DataW.trod] at h
 | succ fuel =>
  simp only [DataW.trod,ht,hce,hct,Nat.mul_one] at h
  split at h
  ·rename_i hl
   obtain ⟨xs,hm,hx⟩:=Option.map_eq_some_iff.1 h
   have hxs:xs.map (·.1)=zs.map fun z=>(DataW.lit (.string z.data.toList):DataW H):=by
    have:=congrArg Prod.fst hx
    simpa using this
   have hxl:xs.length=n:=by simpa using Lib.mapM_length hm
   have hzl:zs.length=n:=by
    have:=congrArg List.length hxs
    simp at this
    omega
   apply List.ext_getElem?
   intro i
   by_cases hi:i < n
   ·obtain ⟨b,hb,hf⟩:=Lib.mapM_at hm i i (by simp [hi])
    obtain ⟨z,hc,rfl,_⟩:=DataW.trod_string he hf
    have h1:cs[i]?=some (.string z):=by
     have:=congrArg (·[0]?) hc
     simpa [List.getElem?_take,List.getElem?_drop] using this
    have h2:(xs.map (·.1))[i]?=some (DataW.lit (.string z.data.toList):DataW H):=by simp [hb]
    rw [hxs] at h2
    simp only [List.getElem?_map,Option.map_eq_some_iff,DataW.lit.injEq,Lit.string.injEq] at h2
    obtain ⟨z',hz',e⟩:=h2
    have:z'=z:=by
     have h3:z'.data=z.data:=Array.ext' e
     cases z';cases z;exact congrArg ByteArray.mk h3
    rw [h1,List.getElem?_map,hz',this];rfl
   ·rw [List.getElem?_eq_none (by omega),List.getElem?_eq_none (by simp;omega)]
  ·cases h
def dLaid : List (String × DataW Unit) := [("math/bits.deBruijn32tab", Rows.laid_math_bits_deBruijn32tab), ("math/bits.deBruijn64tab", Rows.laid_math_bits_deBruijn64tab), ("internal/strconv.uint64pow10", Rows.laid_internal_strconv_uint64pow10), ("merlon/rtl.names", Rows.laid_merlon_rtl_names)]
theorem gPow : Tryd.prog.globalNamed "internal/strconv.uint64pow10" = some 1 := by kernel_rfl
theorem gNames : Tryd.prog.globalNamed "merlon/rtl.names" = some 0 := by kernel_rfl
theorem tPow:(Tryd.prog.globals[1]?).map (·.type)=some 177:=by kernel_rfl
theorem tNames:(Tryd.prog.globals[0]?).map (·.type)=some 82:=by kernel_rfl
theorem laid_pow:(Rows.laid_internal_strconv_uint64pow10:DataW Unit)=Lib.tabData .u64 Lib.pow10Tab:=by kernel_rfl
theorem laid_names:(Rows.laid_merlon_rtl_names:DataW Unit)=.agg (namesS.map fun z=>.lit (.string z.data.toList)):=by kernel_rfl
theorem cellsPow:Tryd.prog.cellsOf 177=20:=by kernel_rfl
theorem cellsNames:Tryd.prog.cellsOf 82=31:=by kernel_rfl
theorem cellsU64:Tryd.prog.cellsOf 90=1:=by kernel_rfl
theorem cellsStr:Tryd.prog.cellsOf 9=1:=by kernel_rfl
theorem rowPow:∃ z,((begin Tryd.prog (fun _ _=>0) default).world.heap[1]?).bind Obj.row?=some (z,177):=by
 have h:(((begin Tryd.prog (fun _ _=>0) default).world.heap[1]?).bind Obj.row?).map Prod.snd=some 177:=by kernel_rfl
 obtain ⟨⟨z,t⟩,h1,h2⟩:=Option.map_eq_some_iff.1 h
 simp only at h2
 subst h2
 exact ⟨z,h1⟩
theorem rowNames:∃ z,((begin Tryd.prog (fun _ _=>0) default).world.heap[0]?).bind Obj.row?=some (z,82):=by
 have h:(((begin Tryd.prog (fun _ _=>0) default).world.heap[0]?).bind Obj.row?).map Prod.snd=some 82:=by kernel_rfl
 obtain ⟨⟨z,t⟩,h1,h2⟩:=Option.map_eq_some_iff.1 h
 simp only at h2
 subst h2
 exact ⟨z,h1⟩
theorem gsizeD:Tryd.prog.globals.size=5:=by kernel_rfl
set_option maxRecDepth 100000 in
theorem d_tabs {W : World} (h : laidMetH Tryd.prog dLaid W) : W.var? Tryd.prog "internal/strconv.uint64pow10" = some (Lib.pow10Tab.map (Value.int .u64)).toArray ∧ W.var? Tryd.prog "merlon/rtl.names" = some (strV namesS).toArray := by
 rw [MakeChecks.laidMetH_plain _ _ _ (by kernel_rfl)] at h
 obtain ⟨ps,⟨_,_,_,_,_,_,_,_,_,_,⟨_,_,_,_,_,_,_,_,_,_,⟨g2,t2,c2,f2,p2,q2,hg2,ht2,hv2,hd2,⟨g3,t3,c3,f3,p3,q3,hg3,ht3,hv3,hd3,_,_⟩,_⟩,_⟩,_⟩,_⟩:=h
 obtain rfl:=Option.some.inj (gPow.symm.trans hg2)
 obtain rfl:=Option.some.inj (tPow.symm.trans ht2)
 obtain rfl:=Option.some.inj (gNames.symm.trans hg3)
 obtain rfl:=Option.some.inj (tNames.symm.trans ht3)
 rw [laid_pow] at hd2
 rw [laid_names] at hd3
 have e2:=Lib.cells_of_tab Tryd.underlying177 Tryd.underlying90 cellsU64 cellsPow hd2
 have e3:=strs_of_tab Tryd.underlying82 Tryd.underlying9 cellsStr cellsNames hd3
 refine ⟨?_,?_⟩
 ·rw [hv2,← e2]
 ·rw [hv3]
  unfold strV
  rw [← e3]
theorem d_start {W:World} (hsh:W.ShapedOpen Tryd.prog) (hL:laidMetH Tryd.prog dLaid W):∃ g0:Nat→Option Blk,(∀ i b,i < Tryd.prog.globals.size→g0 i=some b→(∃ (tail:Array Value) (fr:Nat × Nat),W.heap[i]?=some (.cells (b.cells++tail) b.elem fr))∧∀ v∈b.cells,bnd 0 v)∧∀ ws,GT (hpW Tryd.prog.globals.size g0 ws)∧NT (hpW Tryd.prog.globals.size g0 ws):=by
 obtain ⟨z1,h1⟩:=rowPow
 obtain ⟨z0,h0⟩:=rowNames
 obtain ⟨c1,hh1,_,_⟩:=hsh.1 _ z1 _ (by rw [gsizeD];decide) h1
 obtain ⟨c0,hh0,_,_⟩:=hsh.1 _ z0 _ (by rw [gsizeD];decide) h0
 obtain ⟨hp,hn⟩:=d_tabs hL
 have e1:c1=(Lib.pow10Tab.map (Value.int .u64)).toArray:=by
  unfold World.var? at hp
  rw [gPow] at hp
  simpa only [Option.bind_some,hh1,Option.some.injEq] using hp
 have e0:c0=(strV namesS).toArray:=by
  unfold World.var? at hn
  rw [gNames] at hn
  simpa only [Option.bind_some,hh0,Option.some.injEq] using hn
 refine ⟨fun i=>if i=0 then some ⟨⟨strV namesS⟩,82⟩ else if i=1 then some ⟨⟨Lib.pow10Tab.map (Value.int .u64)⟩,177⟩ else none,fun i b hi hb=>?_,fun ws=>⟨⟨177,?_⟩,⟨82,?_⟩⟩⟩
 ·dsimp only at hb
  by_cases q0:i=0
  ·rw [if_pos q0] at hb
   injection hb with hb
   subst hb
   refine ⟨⟨#[],_,by rw [q0,hh0,e0,Array.append_empty]⟩,fun v hv=>?_⟩
   have hv:v∈strV namesS:=by simpa using hv
   obtain ⟨s,_,rfl⟩:=List.mem_map.1 hv
   simp
  ·rw [if_neg q0] at hb
   by_cases q1:i=1
   ·rw [if_pos q1] at hb
    injection hb with hb
    subst hb
    refine ⟨⟨#[],_,by rw [q1,hh1,e1,Array.append_empty]⟩,fun v hv=>?_⟩
    have hv:v∈Lib.pow10Tab.map (Value.int .u64):=by simpa using hv
    obtain ⟨s,_,rfl⟩:=List.mem_map.1 hv
    simp
   ·rw [if_neg q1] at hb;cases hb
 ·simp [hpW,gsizeD]
 ·simp [hpW,gsizeD]
theorem d_door (os:Os) (args:Array Value):laidMetH Tryd.prog dLaid ((World.doorLaid Tryd.prog 4000 os).forCall (fun _ _=>0) ⟨#[],args,[]⟩).memory :=
 laidMetH_of_parts3 (fuel:=8) (laidMet_of_run' 8 (by kernel_rfl) (by kernel_rfl)) (by kernel_rfl) (by kernel_rfl)
end Go.Proofs.YtjhloakacicdiaaDoor
namespace Go.Proofs.YtjhloakacicdiaaDoor
open Go Go.AH Go.ChangeShapes Go.WideShapes Go.ChangeAt Go.RowKit
set_option maxRecDepth 100000 in
theorem cseKeeps_lifted (os:Os) (started:os.Started) (H:Type) (enc:TypeId × Value→H) :
 ReturnsInHanded {} Tryd.checked os 6 .any (fun w args=>(Rows.cseKeepsSpec.pre enc Tryd.prog Tryd.f6 [] false w args∧laidMetH Tryd.prog dLaid w)∧sizedMet enc Tryd.prog Tryd.f6 (OpenSpec.ofChange Rows.cseKeepsSpec) false w args)
  (Rows.cseKeepsSpec.post enc Tryd.prog Tryd.f6 false true false false):=by
 refine handed_and_shaped (C:=Tryd.checked) (X:=fun w _=>laidMetH Tryd.prog dLaid w) (fun _ _ _ hh h=>h.of_heap hh) Tryd.own started (by kernel_rfl) Tryd.func6
  (ChangeSpec.witness_shaped (enc:=enc) (C:=Tryd.checked) (os:=os) (X:=fun w _=>laidMetH Tryd.prog dLaid w) false (World.doorLaid Tryd.prog 4000 os) #[.agg #[.slice none 0 0,.slice none 0 0,.int .i64 0,.int .i64 0],.agg #[.slice none 0 0,.slice none 0 0],.agg #[.slice none 0 0,.slice none 0 0]] 8 rfl (World.shaped_of_RefB (by kernel_rfl) (by kernel_rfl)) (by kernel_rfl) (by kernel_rfl) (by kernel_rfl) (d_door os _)) ?_
 intro W base args ds gs before hval0 hW _ hwt0 hL hsh _
 have hval:∀ (j:Nat) t v,Tryd.f6.params[j]?=some t→args[j]?=some v→Value.okWide Tryd.prog W .any base t v:=hval0
 have hwt:(DataW.weightsEach Tryd.prog (Tryd.f6.params.toList++Rows.cseKeepsSpec.plain.varTypes Tryd.prog) (ds++gs)).all (·≤reachBytes)=true:=hwt0
 have hW':DataW.Whole enc Tryd.prog Tryd.f6.params.toList Rows.cseKeepsSpec.vars false W args.toList ds gs before:=hW
 obtain ⟨p,q,hA0,hV,hbe,hfz,hnd⟩:=hW
 have hA:DataW.TrodAll enc Tryd.prog W 0 (fun _=>true) true Tryd.f6.params.toList args.toList ds p:=hA0
 have hpar:Tryd.f6.params=#[25,30,30]:=by kernel_rfl
 have hA1:=hA
 rw [hpar] at hA1 hval hwt
 obtain ⟨v0,v1,v2,d0,d1,d2,p0,p1,p2,rfl,rfl,rfl,h0,h1,h2⟩:=trodAll_three hA1
 obtain ⟨rfl,rfl⟩:=trodVars_none hV
 have hw3:(DataW.weightsEach Tryd.prog [25,30,30] [d0,d1,d2]).all (fun x=>decide (x≤reachBytes))=true:=hwt
 simp only [DataW.weightsEach,List.all_append,Bool.and_eq_true] at hw3
 have hk0:okW (d0.weights Tryd.prog 25):=fun n hn=>by simpa using List.all_eq_true.1 hw3.1 n hn
 have hk1:okW (d1.weights Tryd.prog 30):=fun n hn=>by simpa using List.all_eq_true.1 hw3.2.1 n hn
 have hk2:okW (d2.weights Tryd.prog 30):=fun n hn=>by simpa using List.all_eq_true.1 hw3.2.2.1 n hn
 obtain ⟨cs0,rfl,hz0⟩:=okWide_struct Tryd.underlying25 (hval 0 25 v0 rfl rfl)
 obtain ⟨cs1,rfl,hz1⟩:=okWide_struct Tryd.underlying30 (hval 1 30 v1 rfl rfl)
 obtain ⟨cs2,rfl,hz2⟩:=okWide_struct Tryd.underlying30 (hval 2 30 v2 rfl rfl)
 have t0:TW enc Tryd.prog W 25 cs0.toList:=TW.of h0 hk0
 have t1:TW enc Tryd.prog W 30 cs1.toList:=TW.of h1 hk1
 have t2:TW enc Tryd.prog W 30 cs2.toList:=TW.of h2 hk2
 obtain ⟨g0,hg0,hgt⟩:=d_start hsh hL
 obtain ⟨ws,acs,hlay,hlen,hmap,hbd,a0,aX,rfl,hpr,a1,a2,rfl,hin1,hin2⟩:=D.append (G:=Tryd.prog.globals.size) (g0:=g0) up_progN (D_progN t0) (D.append up_inp (D_input t1) (D_input t2)) [] ⟨fun i w b h=>by simp at h,fun i w b h=>by simp at h⟩
 rw [List.nil_append] at hlay hmap hbd hpr hin1 hin2
 obtain ⟨pr,P1,e1,P2,e2,rfl,hfs,hgs,hok,hnm⟩:=hpr
 obtain ⟨A1,n1,c1,A2,n2,c2,pub,sec,rfl,hi1,hi2⟩:=hin1
 obtain ⟨A3,n3,c3,A4,n4,c4,pub',sec',rfl,hi3,hi4⟩:=hin2
 have hG:Tryd.prog.globals.size+ws.length≤rwM:=Nat.le_trans (Nat.add_le_add_left hlen _) (Nat.le_of_ble_eq_true (by kernel_rfl))
 rw [List.map_append] at hmap
 have hz0':cs0.toList.length=4:=by rw [Array.length_toList,hz0];kernel_rfl
 have hz1':cs1.toList.length=2:=by rw [Array.length_toList,hz1];kernel_rfl
 obtain ⟨m0,mX⟩:=List.append_inj hmap (by rw [List.length_map,hz0'];rfl)
 rw [List.map_append] at mX
 obtain ⟨m1,m2⟩:=List.append_inj mX (by rw [List.length_map,hz1'];rfl)
 have ec0:cs0=⟨(progC pr P1 e1 P2 e2).map (ren (envW Tryd.prog.globals.size ws))⟩:=by rw [m0]
 have ec1:cs1=⟨[Value.slice A1 n1 c1,.slice A2 n2 c2].map (ren (envW Tryd.prog.globals.size ws))⟩:=by rw [m1]
 have ec2:cs2=⟨[Value.slice A3 n3 c3,.slice A4 n4 c4].map (ren (envW Tryd.prog.globals.size ws))⟩:=by rw [m2]
 have hslot:∀ (j i:Nat) (cs:Array Value) (A:Option Addr) (n c:Nat),(#[25,30,30]:Array TypeId)[j]?=some 30→(#[Value.agg cs0,.agg cs1,.agg cs2]:Array Value)[j]?=some (.agg cs)→i < 2→cs[i]?=some (ren (envW Tryd.prog.globals.size ws) (.slice A n c))→∀ a,A=some a→a.spot=none:=by
  rintro j i cs A n c hj hv hi hc a rfl
  exact okWide_slot (cs:=cs) (i:=i) (a:=renAddr (envW Tryd.prog.globals.size ws) a) (n:=n) (c:=renCap (envW Tryd.prog.globals.size ws) a c) ⟨_,Tryd.underlying30⟩ (ts:=[28,28]) (by kernel_rfl) (hval j 30 _ hj hv) (by rw [hc,ren_slice]) (by rcases i with _|_|i<;>first|rfl|omega) (by kernel_rfl:Tryd.prog.underlying 28=some (.slice 5))
 have hs1:=hslot 1 0 cs1 A1 n1 c1 rfl rfl (by decide) (by rw [ec1];simp)
 have hs2:=hslot 1 1 cs1 A2 n2 c2 rfl rfl (by decide) (by rw [ec1];simp)
 have hs3:=hslot 2 0 cs2 A3 n3 c3 rfl rfl (by decide) (by rw [ec2];simp)
 have hs4:=hslot 2 1 cs2 A4 n4 c4 rfl rfl (by decide) (by rw [ec2];simp)
 have hN:(hpW Tryd.prog.globals.size g0 ws).n=rwM:=hpW_n _ _ _
 have hb0:∀ v∈progC pr P1 e1 P2 e2,bnd (hpW Tryd.prog.globals.size g0 ws).n v:=fun v hv=>by rw [hN];exact bnd_mono hG v (hbd v (List.mem_append_left _ hv))
 have hb1:∀ v∈[Value.slice A1 n1 c1,Value.slice A2 n2 c2],bnd (hpW Tryd.prog.globals.size g0 ws).n v:=fun v hv=>by rw [hN];exact bnd_mono hG v (hbd v (List.mem_append_right _ (List.mem_append_left _ hv)))
 have hb2:∀ v∈[Value.slice A3 n3 c3,Value.slice A4 n4 c4],bnd (hpW Tryd.prog.globals.size g0 ws).n v:=fun v hv=>by rw [hN];exact bnd_mono hG v (hbd v (List.mem_append_right _ (List.mem_append_right _ hv)))
 have ht:=CseKeeps_tf (hpW Tryd.prog.globals.size g0 ws) (hgt ws).1 (hgt ws).2 pr hok hnm P1 e1 P2 e2 hfs hgs A1 n1 c1 A2 n2 c2 A3 n3 c3 A4 n4 c4 pub sec pub' sec' (hi1 hs1) (hi2 hs2) (hi3 hs3) (hi4 hs4)
 have hh:=TF.below ht (fun i b h=>h) (by
  intro x hx
  have hx:x∈[Value.agg ⟨progC pr P1 e1 P2 e2⟩,.agg ⟨[.slice A1 n1 c1,.slice A2 n2 c2]⟩,.agg ⟨[.slice A3 n3 c3,.slice A4 n4 c4]⟩]:=by simpa using hx
  simp only [List.mem_cons,List.not_mem_nil,or_false] at hx
  rcases hx with rfl|rfl|rfl
  ·rw [bnd_agg];exact fun v hv=>hb0 v (by simpa using hv)
  ·rw [bnd_agg];exact fun v hv=>hb1 v (by simpa using hv)
  ·rw [bnd_agg];exact fun v hv=>hb2 v (by simpa using hv)) (Lay.hok hlay hG hg0)
 have hargs:(⟨[.agg ⟨progC pr P1 e1 P2 e2⟩,.agg ⟨[.slice A1 n1 c1,.slice A2 n2 c2]⟩,.agg ⟨[.slice A3 n3 c3,.slice A4 n4 c4]⟩]⟩:Array Value).map (ren (envW Tryd.prog.globals.size ws))=#[.agg cs0,.agg cs1,.agg cs2]:=by
  rw [ec0,ec1,ec2]
  simp only [List.map_toArray,List.map_cons,List.map_nil,ren_agg]
 rw [hargs] at hh
 refine hh.mono fun e W' ⟨⟨ρ',he⟩,hb⟩=>?_
 have hres:DataW.TrodAll enc Tryd.prog W' W.heap.size (fun _=>false) false [4] [.bool true] [.lit (.bool true)] []:=trodAll_mk1 (shutB (by kernel_rfl))
 refine ⟨.bool true,by simpa using he,[d0,d1,d2],[],before,[],p0++p1++p2,[],hW',hres,?_,rfl,Below.frame hb _,fun h=>by cases h⟩
 refine trodAll_below Tryd.laidOut hb (ts:=Tryd.f6.params.toList) (fun t ht=>?_) (fun x hx=>hW'.lt x (by rw [hbe,List.append_nil];exact hx)) hA
 rw [hpar] at ht
 have ht:t=25∨t=30:=by simpa using ht
 rcases ht with rfl|rfl<;>exact ⟨by kernel_rfl,of_decide_eq_true (by kernel_rfl)⟩
theorem cseKeeps_holds:Rows.CseKeepsSaid :=
 OpenClaim.holds_of_wide 6 Tryd.f6 rfl rfl rfl rfl rfl rfl rfl ⟨rfl,rfl,rfl,rfl,rfl⟩ rfl rfl rfl rfl rfl (by kernel_rfl) Tryd.func6 (by kernel_rfl)
  (of_decide_eq_true (by kernel_rfl)) (by unfold Func.isWrapper;rw [if_neg (by decide +kernel)];exact ⟨rfl,rfl⟩)
  (fun os started H enc _=>cseKeeps_lifted os started H enc)
theorem cseKeeps_card:Rows.CseKeepsCardSaid :=
 Claim7.holds_tied_plain_at .later [] [.data, .data, .data, .data] true (true, "4301043a9d7481003906c8a6f3ade470f248aed11d6693d68c136400572a01d6") false
  cseKeeps_holds (fun _ h=>by cases h) (by kernel_rfl) (fun _ h=>by cases h) cseKeeps_row_tie rfl ⟨rfl,rfl⟩ (by kernel_rfl) rfl
  (fun f fn hf hfn=>by
   obtain rfl:f=6:=Option.some.inj ((show Tryd.prog.funcNamed Rows.cseKeepsRow.func=some 6 by kernel_rfl).symm.trans hf) |>.symm
   obtain rfl:fn=Tryd.f6:=(Option.some.inj (Tryd.func6.symm.trans hfn)).symm
   exact ⟨by kernel_rfl,fun j t ht=>by
    rw [show Tryd.f6.params=#[25,30,30] by kernel_rfl] at ht
    have h3:t=25∨t=30:=by
     rcases j with _|_|_|j
     ·exact .inl (by simpa using ht.symm)
     ·exact .inr (by simpa using ht.symm)
     ·exact .inr (by simpa using ht.symm)
     ·simp at ht
    rcases h3 with rfl|rfl
    ·exact (show Tryd.prog.wantsStandIn 25=false by kernel_rfl)
    ·exact (show Tryd.prog.wantsStandIn 30=false by kernel_rfl)⟩)
  (by kernel_rfl)
#print axioms cseKeeps_card
end Go.Proofs.YtjhloakacicdiaaDoor
