/-
  What the functions that the law reaches compute,told by plain data;it holds of programs that pass the check of right form and are light.
-/
import Derived.Test.YtjhloakacicdiaaDoorR10
import Derived.Test.YtjhloakacicdiaaDoorR13
import Derived.Test.YtjhloakacicdiaaDoorR5
import Derived.Test.YtjhloakacicdiaaDoorR6
set_option linter.unusedVariables false
set_option linter.unusedSimpArgs false
namespace Go.Proofs.YtjhloakacicdiaaDoor
open Go.AH
abbrev Gh:=List LeakS→Option (List LeakS × List LeakS)
def gNone:Gh:=fun tr=>some ([],tr)
def gSeq (a b:Gh):Gh:=fun tr=>match a tr with
 | none=>none
 | some (o,r)=>match b r with
  | none=>none
  | some (o2,r2)=>some (o++o2,r2)
def gOne (keep:Bool) (k:LeakS→Gh):Gh:=fun tr=>match tr with
 | []=>none
 | l::r=>match k l r with
  | none=>none
  | some (o,r')=>some ((if keep=true then [l] else [])++o,r')
def gIns (gc:Int→Gh) (x x':InsS):Gh :=
 if x.op=26∨x.op=27 then gOne (decide (x'.op=x.op)) fun _=>gNone
 else if x.op=28 then gc x.ref
 else if x.op=29 then gOne true fun l=>gc (funcAt l.a)
 else gNone
def gInss (gc:Int→Gh):List InsS→List InsS→Gh
 | x::xs,x'::xs'=>gSeq (gIns gc x x') (gInss gc xs xs')
 | _,_=>gNone
def gBlocks (gc:Int→Gh) (bl bl':List BlockS):Nat→Int→Gh
 | 0,_=>gNone
 | k+1,bi=>match bl[bi.toNat]?,bl'[bi.toNat]? with
  | some b,some b'=>gSeq (gInss gc b.ins b'.ins)
   (if b.term.kind=3 then gNone
   else if b.term.kind=1 then gBlocks gc bl bl' k b.term.goto
   else gOne (decide (b'.term.kind=2)) fun l=>if l.a=1 then gBlocks gc bl bl' k b.term.goto else gBlocks gc bl bl' k b.term.els)
  | _,_=>gNone
def gCall (p q:ProgS) (N:Nat):Nat→Int→Gh
 | 0,_=>gNone
 | d+1,n=>match p.funcs[n.toNat]?,q.funcs[n.toNat]? with
  | some f,some f'=>gBlocks (gCall p q N d) f.blocks f'.blocks N 0
  | _,_=>gNone
def Sim (g:Gh) (a a' b b':List LeakS):Prop:=∃ n qn,a'=n.reverse++a∧b'=qn.reverse++b∧∀ r,g (n++r)=some (qn,r)
theorem Sim.none (a b:List LeakS):Sim gNone a a b b:=⟨[],[],rfl,rfl,fun _=>rfl⟩
theorem Sim.seq {g1 g2:Gh} {a a1 a2 b b1 b2:List LeakS} (h1:Sim g1 a a1 b b1) (h2:Sim g2 a1 a2 b1 b2):Sim (gSeq g1 g2) a a2 b b2:=by
 obtain ⟨n1,q1,rfl,rfl,e1⟩:=h1
 obtain ⟨n2,q2,rfl,rfl,e2⟩:=h2
 refine ⟨n1++n2,q1++q2,by simp,by simp,fun r=>?_⟩
 unfold gSeq
 rw [List.append_assoc,e1]
 dsimp only
 rw [e2]
theorem Sim.one {keep:Bool} {k:LeakS→Gh} {a a' b b':List LeakS} {l:LeakS} (h:Sim (k l) (l::a) a' (if keep=true then l::b else b) b'):Sim (gOne keep k) a a' b b':=by
 obtain ⟨n,q,rfl,rfl,e⟩:=h
 refine ⟨l::n,(if keep=true then [l] else [])++q,by simp,?_,fun r=>?_⟩
 ·cases keep<;>simp
 ·simp only [gOne,List.cons_append,e]
def lks (s:RunS) (l:List LeakS):RunS:={ s with leaks:=l }
theorem stepS_lks (s:RunS) (l:List LeakS):stepS (lks s l)=lks (stepS s) l:=by
 unfold stepS
 by_cases h0:s.fin=0
 ·rw [if_pos (show (lks s l).fin=0 from h0),if_pos h0]
  by_cases h1:s.steps ≥ s.fuel
  ·rw [if_pos (show (lks s l).steps ≥ (lks s l).fuel from h1),if_pos h1];rfl
  ·rw [if_neg (show ¬ (lks s l).steps ≥ (lks s l).fuel from h1),if_neg h1];rfl
 ·rw [if_neg (show ¬ (lks s l).fin=0 from h0),if_neg h0]
theorem stepS_leaks (s:RunS):(stepS s).leaks=s.leaks:=by
 unfold stepS
 split
 ·split<;>rfl
 ·rfl
theorem stopS_lks (s:RunS) (e:Int) (l:List LeakS):stopS (lks s l) e=lks (stopS s e) l:=by
 unfold stopS
 by_cases h0:s.fin=0
 ·rw [if_pos (show (lks s l).fin=0 from h0),if_pos h0];rfl
 ·rw [if_neg (show ¬ (lks s l).fin=0 from h0),if_neg h0]
theorem stopS_leaks (s:RunS) (e:Int):(stopS s e).leaks=s.leaks:=by unfold stopS;split<;>rfl
theorem stopS_fin (s:RunS) {e:Int} (he:e≠0):¬ (stopS s e).fin=0:=by
 unfold stopS
 split
 ·exact he
 ·assumption
theorem leakS_lks (s:RunS) (x:LeakS) (l:List LeakS):leakS (lks s l) x=lks (leakS s x) (x::l):=rfl
theorem loadS_lks (s:RunS) (at_:Int) (n:Nat) (sg:Bool) (l:List LeakS):loadS (lks s l) at_ n sg=((loadS s at_ n sg).1,lks (loadS s at_ n sg).2 (⟨2,at_,0⟩::l)):=by
 unfold loadS
 by_cases h1:inData s at_ n
 ·rw [if_pos (show inData (lks s l) at_ n from h1),if_pos h1];rfl
 ·rw [if_neg (show ¬ inData (lks s l) at_ n from h1),if_neg h1]
  by_cases h2:inStack s at_ n
  ·rw [if_pos (show inStack (lks s l) at_ n from h2),if_pos h2];rfl
  ·rw [if_neg (show ¬ inStack (lks s l) at_ n from h2),if_neg h2,leakS_lks,stopS_lks]
theorem loadS_leaks (s:RunS) (at_:Int) (n:Nat) (sg:Bool):(loadS s at_ n sg).2.leaks=⟨2,at_,0⟩::s.leaks:=by
 unfold loadS
 split
 ·rfl
 ·split
  ·rfl
  ·rw [stopS_leaks];rfl
theorem storeS_lks (s:RunS) (at_:Int) (n:Nat) (v:Int) (l:List LeakS):storeS (lks s l) at_ n v=lks (storeS s at_ n v) (⟨3,at_,0⟩::l):=by
 unfold storeS
 by_cases h1:inData s at_ n
 ·rw [if_pos (show inData (lks s l) at_ n from h1),if_pos h1];rfl
 ·rw [if_neg (show ¬ inData (lks s l) at_ n from h1),if_neg h1]
  by_cases h2:inStack s at_ n
  ·rw [if_pos (show inStack (lks s l) at_ n from h2),if_pos h2];rfl
  ·rw [if_neg (show ¬ inStack (lks s l) at_ n from h2),if_neg h2,leakS_lks,stopS_lks]
theorem storeS_leaks (s:RunS) (at_:Int) (n:Nat) (v:Int):(storeS s at_ n v).leaks=⟨3,at_,0⟩::s.leaks:=by
 unfold storeS
 split
 ·rfl
 ·split
  ·rfl
  ·rw [stopS_leaks];rfl
structure Regs (r:Nat) (regs:List Int):Prop where
 len:regs.length=r
 fit:∀ v∈regs,fitI v
theorem Regs.set {r:Nat} {regs:List Int} (h:Regs r regs) (d:Int) {v:Int} (hv:fitI v):Regs r (setReg regs d v):=⟨by rw [setReg_len,h.len],setReg_fit h.fit hv⟩
structure InsSim (p q:ProgS) (r:Nat) (x x':InsS) (J J':List Int→RunS→List Int→Prop):Prop where
 call:(x.op=28∨x.op=29)→x'.op=x.op∧x'.dst=x.dst∧x'.ref=x.ref∧x'.args.length=x.args.length∧∀ at_ s regs,J at_ s regs→Regs r regs→argS regs x'.a=argS regs x.a∧accV regs x'.args x.args.length=accV regs x.args x.args.length∧∀ s1 v,fitI v→J' at_ s1 (setReg regs x.dst v)
 plain:¬ (x.op=28∨x.op=29)→∀ cl cl' at_ s regs l,J at_ s regs→Regs r regs→(insS p cl at_ s regs x).1.fin=0 →
  ∃ l',insS q cl' at_ (lks s l) regs x'=(lks (insS p cl at_ s regs x).1 l',(insS p cl at_ s regs x).2)∧(∀ gc,Sim (gIns gc x x') s.leaks (insS p cl at_ s regs x).1.leaks l l')∧J' at_ (insS p cl at_ s regs x).1 (insS p cl at_ s regs x).2
def CallSim (p q:ProgS) (N d:Nat):Prop:=∀ (s:RunS) (n:Int) (args:List Int) (l:List LeakS),(∀ v∈args,fitI v)→paramsAt p n=some (args.length:Int)→(callK p N d s n args).2.fin=0 →
 fitI (callK p N d s n args).1∧∃ l',callK q N d (lks s l) n args=((callK p N d s n args).1,lks (callK p N d s n args).2 l')∧Sim (gCall p q N d n) s.leaks (callK p N d s n args).2.leaks l l'
structure SameP (p q:ProgS):Prop where
 glob:q.globals=p.globals
 data:q.data=p.data
 main:q.main=p.main
 len:q.funcs.length=p.funcs.length
 par:∀ n,paramsAt q n=paramsAt p n
theorem insS_call {p:ProgS} {cl:RunS→List Int→InsS→Int × RunS} {at_:List Int} {s:RunS} {regs:List Int} {x:InsS} (h:x.op=28∨x.op=29):insS p cl at_ s regs x=if (stepS s).fin=0 then ((cl (stepS s) regs x).2,setReg regs x.dst (cl (stepS s) regs x).1) else (stepS s,regs):=by
 unfold insS
 have h2:twoS x.op=false:=by
  cases hb:twoS x.op with
  | false=>rfl
  | true=>have:=two_iff.1 hb;omega
 rw [if_neg (show ¬ (x.op=1∨x.op=2) by omega),h2,if_neg (show ¬ (false=true) by decide),if_neg (show ¬ x.op=22 by omega),if_neg (show ¬ x.op=23 by omega),if_neg (show ¬ x.op=24 by omega),if_neg (show ¬ x.op=25 by omega),if_neg (show ¬ x.op=26 by omega),if_neg (show ¬ x.op=27 by omega),if_neg (show ¬ x.op=30 by omega)]
theorem insS_regs {p:ProgS} {f:FuncS} {cl:RunS→List Int→InsS→Int × RunS} {at_:List Int} {s:RunS} {regs:List Int} {x:InsS} {r:Nat} (hr:Regs r regs) (hx:x.ok) (hR:rightS p f x=true) (hnf:p.funcs.length≤1000000) (hc:x.op=28∨x.op=29→fitI (cl (stepS s) regs x).1):Regs r (insS p cl at_ s regs x).2:=by
 have ha:fitI (argS regs x.a):=fit_arg hr.fit hx.a
 refine insS_elim (Q:=fun z=>Regs r z.2) (fun _=>hr) (fun _ _=>hr.set _ ha) (fun _ _=>hr.set _ (fit_reckon ha)) (fun _ _=>hr.set _ (fit_widen ha)) (fun _ _=>hr.set _ (fit_i64 _)) (fun _ _=>hr.set _ (fit_i64 _)) (fun _ h25=>hr.set _ ?_) (fun _ _=>hr.set _ (fit_loadS _ _ _ _)) (fun _ _=>hr) (fun _ _=>hr) (fun _ q1 q2 q3 q4=>hr.set _ (hc ?_))
 ·have h2:=hR
  unfold rightS at h2
  simp only [Bool.and_eq_true,decide_eq_true_eq] at h2
  have h3:=h2.2
  have hT:rightT p f x=(decide (0≤x.dst) && decide (0≤x.ref) && decide (x.ref < p.funcs.length)):=by
   unfold rightT
   rw [if_neg (by omega),if_neg (by omega),if_neg (by omega),if_neg (by omega),if_pos h25]
  rw [hT] at h3
  simp only [Bool.and_eq_true,decide_eq_true_eq] at h3
  exact ⟨by omega,by omega⟩
 ·have h2:=hR
  unfold rightS at h2
  simp only [Bool.and_eq_true,decide_eq_true_eq] at h2
  exact op_call ⟨h2.1.1.1.1.1,h2.1.1.1.1.2⟩ q1 q2 q3 q4
theorem ins_sim {p q:ProgS} (hS:SameP p q) {N d r:Nat} {f:FuncS} (hC:CallSim p q N d) {x x':InsS} {J J':List Int→RunS→List Int→Prop} (hI:InsSim p q r x x' J J') (hx:x.ok) (hR:rightS p f x=true) (hnf:p.funcs.length≤1000000) {at_:List Int} {s:RunS} {regs:List Int} (hJ:J at_ s regs) (hr:Regs r regs) (l:List LeakS)
 (h0:(insS p (callsS p (callK p N d)) at_ s regs x).1.fin=0) :
 Regs r (insS p (callsS p (callK p N d)) at_ s regs x).2∧J' at_ (insS p (callsS p (callK p N d)) at_ s regs x).1 (insS p (callsS p (callK p N d)) at_ s regs x).2 ∧
  ∃ l',insS q (callsS q (callK q N d)) at_ (lks s l) regs x'=(lks (insS p (callsS p (callK p N d)) at_ s regs x).1 l',(insS p (callsS p (callK p N d)) at_ s regs x).2)∧Sim (gIns (gCall p q N d) x x') s.leaks (insS p (callsS p (callK p N d)) at_ s regs x).1.leaks l l':=by
 by_cases hc:x.op=28∨x.op=29
 ·obtain ⟨c1,c2,c3,c4,c5⟩:=hI.call hc
  obtain ⟨c5,c6,c7⟩:=c5 at_ s regs hJ hr
  rw [insS_call hc] at h0 ⊢
  have hc':x'.op=28∨x'.op=29:=by omega
  rw [insS_call hc']
  by_cases hs:(stepS s).fin=0
  ·rw [if_pos hs] at h0 ⊢
   rw [stepS_lks,if_pos (show (lks (stepS s) l).fin=0 from hs),c2]
   have hargs:∀ v∈accV regs x.args x.args.length,fitI v:=accV_fit hr.fit hx.args _
   have key:fitI (callsS p (callK p N d) (stepS s) regs x).1∧∃ l',callsS q (callK q N d) (lks (stepS s) l) regs x'=((callsS p (callK p N d) (stepS s) regs x).1,lks (callsS p (callK p N d) (stepS s) regs x).2 l')∧Sim (gIns (gCall p q N d) x x') s.leaks (callsS p (callK p N d) (stepS s) regs x).2.leaks l l':=by
    have h0:(callsS p (callK p N d) (stepS s) regs x).2.fin=0:=h0
    rw [← stepS_leaks s]
    generalize stepS s=t at h0 ⊢
    unfold callsS at h0 ⊢
    unfold gIns
    rw [if_neg (show ¬ (x.op=26∨x.op=27) by omega)]
    rw [c1,c3,c4,c5,c6]
    by_cases h29:x.op=29
    ·rw [if_pos h29] at h0 ⊢
     rw [if_pos h29,if_neg (show ¬ x.op=28 by omega),if_pos h29]
     split at h0
     ·exact absurd h0 (stopS_fin _ (by decide))
     ·rename_i hq
      rw [if_neg hq]
      rw [hS.len,if_neg hq,hS.par]
      split at h0
      ·rename_i hp
       rw [if_pos hp,if_pos hp]
       obtain ⟨f1,l',e,hsim⟩:=hC (leakS t ⟨4,argS regs x.a,0⟩) (funcAt (argS regs x.a)) (accV regs x.args x.args.length) (⟨4,argS regs x.a,0⟩::l) hargs (by rw [accV_len];exact hp) h0
       exact ⟨f1,l',by rw [leakS_lks];exact e,Sim.one (l:=⟨4,argS regs x.a,0⟩) (by rw [if_pos rfl];exact hsim)⟩
      ·exact absurd h0 (stopS_fin _ (by decide))
    ·have h28:x.op=28:=by omega
     rw [if_neg h29] at h0 ⊢
     rw [if_neg h29,if_pos h28]
     have hp:paramsAt p x.ref=some (x.args.length:Int):=by
      have h2:=hR
      unfold rightS at h2
      simp only [Bool.and_eq_true,decide_eq_true_eq] at h2
      have h3:=h2.2
      unfold rightT at h3
      rw [if_neg (by omega),if_neg (by omega),if_neg (by omega),if_neg (by omega),if_neg (by omega),if_pos h28] at h3
      simpa using h3
     exact hC t x.ref _ l hargs (by rw [accV_len];exact hp) h0
   obtain ⟨k1,l',k2,k3⟩:=key
   refine ⟨hr.set _ k1,c7 _ _ k1,l',?_,k3⟩
   rw [k2]
  ·rw [if_neg hs] at h0
   exact absurd h0 hs
 ·obtain ⟨l',e,hsim,hj⟩:=hI.plain hc (callsS p (callK p N d)) (callsS q (callK q N d)) at_ s regs l hJ hr h0
  exact ⟨insS_regs hr hx hR hnf (fun h=>absurd h hc),hj,l',e,hsim _⟩
inductive InssSim (p q:ProgS) (r:Nat):(List Int→RunS→List Int→Prop)→List InsS→List InsS→(List Int→RunS→List Int→Prop)→Prop
 | nil {J}:InssSim p q r J [] [] J
 | cons {J J1 J2 x x' xs xs'} (h:InsSim p q r x x' J J1) (ht:InssSim p q r J1 xs xs' J2):InssSim p q r J (x::xs) (x'::xs') J2
theorem inss_sim {p q:ProgS} (hS:SameP p q) {N d r:Nat} {f:FuncS} (hC:CallSim p q N d) (hnf:p.funcs.length≤1000000) {J J':List Int→RunS→List Int→Prop} {xs xs':List InsS} (hI:InssSim p q r J xs xs' J'):(∀ x∈xs,x.ok∧rightS p f x=true)→∀ {at_:List Int} {s:RunS} {regs:List Int},J at_ s regs→Regs r regs→∀ (l:List LeakS),
 (runIns (insS p (callsS p (callK p N d)) at_) xs s regs).1.fin=0 →
 Regs r (runIns (insS p (callsS p (callK p N d)) at_) xs s regs).2∧J' at_ (runIns (insS p (callsS p (callK p N d)) at_) xs s regs).1 (runIns (insS p (callsS p (callK p N d)) at_) xs s regs).2 ∧
  ∃ l',runIns (insS q (callsS q (callK q N d)) at_) xs' (lks s l) regs=(lks (runIns (insS p (callsS p (callK p N d)) at_) xs s regs).1 l',(runIns (insS p (callsS p (callK p N d)) at_) xs s regs).2)∧Sim (gInss (gCall p q N d) xs xs') s.leaks (runIns (insS p (callsS p (callK p N d)) at_) xs s regs).1.leaks l l':=by
 induction hI with
 | nil=>intro _ at_ s regs hJ hr l _;exact ⟨hr,hJ,l,rfl,Sim.none _ _⟩
 | cons h ht ih =>
  rename_i J J1 J2 x x' xs xs'
  intro hx at_ s regs hJ hr l h0
  rw [runIns] at h0 ⊢
  by_cases h1:(insS p (callsS p (callK p N d)) at_ s regs x).1.fin=0
  ·rw [if_pos h1] at h0 ⊢
   obtain ⟨r1,j1,l1,e1,s1⟩:=ins_sim hS hC h (hx x (by simp)).1 (hx x (by simp)).2 hnf hJ hr l h1
   obtain ⟨r2,j2,l2,e2,s2⟩:=ih (fun y hy=>hx y (by simp [hy])) j1 r1 l1 h0
   refine ⟨r2,j2,l2,?_,s1.seq s2⟩
   rw [runIns,e1]
   dsimp only
   rw [if_pos (show (lks (insS p (callsS p (callK p N d)) at_ s regs x).1 l1).fin=0 from h1),e2]
  ·rw [if_neg h1] at h0
   exact absurd h0 h1
structure TermSim (r:Nat) (t t':TermS) (R:List Int→Prop) (E:Nat→List Int→Prop):Prop where
 ret:t.kind=3→t'.kind=3∧∀ regs,R regs→Regs r regs→argS regs t'.a=argS regs t.a
 jump:t.kind=1→t'.kind=1∧t'.goto=t.goto∧∀ regs,R regs→Regs r regs→E t.goto.toNat regs
 yes:t.kind=2→∀ regs,R regs→Regs r regs→holdsS t.op (argS regs t.a) (argS regs t.b)=true→E t.goto.toNat regs∧((t'.kind=1∧t'.goto=t.goto)∨(t'.kind=2∧t'.goto=t.goto∧holdsS t'.op (argS regs t'.a) (argS regs t'.b)=true))
 no:t.kind=2→∀ regs,R regs→Regs r regs→holdsS t.op (argS regs t.a) (argS regs t.b)=false→E t.els.toNat regs∧((t'.kind=1∧t'.goto=t.els)∨(t'.kind=2∧t'.els=t.els∧holdsS t'.op (argS regs t'.a) (argS regs t'.b)=false))
structure BlockSim (p q:ProgS) (r:Nat) (b b':BlockS) (R:List Int→Prop) (E:Nat→List Int→Prop):Prop where
 sim:∃ J0 J:List Int→RunS→List Int→Prop,(∀ at_ s regs,R regs→J0 at_ s regs)∧InssSim p q r J0 b.ins b'.ins J∧TermSim r b.term b'.term (fun regs=>∃ at_ s,J at_ s regs) E
structure FuncSim (p q:ProgS) (f f':FuncS):Prop where
 regs:f'.regs=f.regs
 slots:f'.slots=f.slots
 len:f'.blocks.length=f.blocks.length
 sim:∃ E:Nat→List Int→Prop,(∀ regs,Regs f.regs.toNat regs→E 0 regs)∧∀ (i:Nat) (b b':BlockS),f.blocks[i]?=some b→f'.blocks[i]?=some b'→(∃ regs,E i regs)→BlockSim p q f.regs.toNat b b' (E i) E
def tailK (ins:RunS→List Int→InsS→RunS × List Int) (f:FuncS) (k:Nat) (t:TermS) (r:RunS × List Int):Int × RunS × List Int :=
 if r.1.fin=0 then
  if (stepS r.1).fin=0 then
   if t.kind=3 then (argS r.2 t.a,stepS r.1,r.2)
   else if t.kind=1 then blocksS ins f k t.goto (stepS r.1) r.2
   else if holdsS t.op (argS r.2 t.a) (argS r.2 t.b)=true then blocksS ins f k t.goto (leakS (stepS r.1) (leakB true)) r.2
   else blocksS ins f k t.els (leakS (stepS r.1) (leakB false)) r.2
  else (0,stepS r.1,r.2)
 else (0,r.1,r.2)
theorem blocksS_tailK (ins:RunS→List Int→InsS→RunS × List Int) (f:FuncS) (k:Nat) (bi:Int) (s:RunS) (regs:List Int) (h0:s.fin=0) (b:BlockS) (hb:f.blocks[bi.toNat]?=some b):blocksS ins f (k+1) bi s regs=tailK ins f k b.term (runIns ins b.ins s regs):=by
 rw [blocksS,if_pos h0,hb];rfl
theorem blocks_sim {p q:ProgS} (hS:SameP p q) {N d r:Nat} {f f':FuncS} (hC:CallSim p q N d) (hnf:p.funcs.length≤1000000) (hlen:f'.blocks.length=f.blocks.length) {E:Nat→List Int→Prop} (hB:∀ (i:Nat) (b b':BlockS),f.blocks[i]?=some b→f'.blocks[i]?=some b'→(∃ regs,E i regs)→BlockSim p q r b b' (E i) E)
 (hok:∀ b∈f.blocks,(∀ x∈b.ins,x.ok∧rightS p f x=true)∧b.term.ok∧1≤b.term.kind∧b.term.kind≤3) (at_:List Int):∀ (k:Nat) (bi:Int) (s:RunS) (regs:List Int) (l:List LeakS),Regs r regs→E bi.toNat regs→(blocksS (insS p (callsS p (callK p N d)) at_) f k bi s regs).2.1.fin=0 →
 fitI (blocksS (insS p (callsS p (callK p N d)) at_) f k bi s regs).1∧∃ l',blocksS (insS q (callsS q (callK q N d)) at_) f' k bi (lks s l) regs=((blocksS (insS p (callsS p (callK p N d)) at_) f k bi s regs).1,lks (blocksS (insS p (callsS p (callK p N d)) at_) f k bi s regs).2.1 l',(blocksS (insS p (callsS p (callK p N d)) at_) f k bi s regs).2.2) ∧
  Sim (gBlocks (gCall p q N d) f.blocks f'.blocks k bi) s.leaks (blocksS (insS p (callsS p (callK p N d)) at_) f k bi s regs).2.1.leaks l l':=by
 intro k
 induction k with
 | zero=>intro bi s regs l _ _ _;exact ⟨fit0R,l,rfl,Sim.none _ _⟩
 | succ k ih =>
  intro bi s regs l hr hE h0
  by_cases hs:s.fin=0
  ·cases hb:f.blocks[bi.toNat]? with
   | none =>
    have hb':f'.blocks[bi.toNat]?=none:=by rw [List.getElem?_eq_none_iff] at hb ⊢;omega
    have e1:blocksS (insS p (callsS p (callK p N d)) at_) f (k+1) bi s regs=(0,s,regs):=by rw [blocksS,if_pos hs,hb]
    have e2:blocksS (insS q (callsS q (callK q N d)) at_) f' (k+1) bi (lks s l) regs=(0,lks s l,regs):=by rw [blocksS,if_pos (show (lks s l).fin=0 from hs),hb']
    rw [e1,e2,gBlocks,hb]
    exact ⟨fit0R,l,rfl,Sim.none _ _⟩
   | some b =>
    have hbl:=(List.getElem?_eq_some_iff.1 hb).1
    obtain ⟨b',hb'⟩:∃ b',f'.blocks[bi.toNat]?=some b':=⟨_,List.getElem?_eq_getElem (by omega)⟩
    obtain ⟨J0,J,hJ0,hI,hT⟩:=(hB _ b b' hb hb' ⟨regs,hE⟩).sim
    obtain ⟨o1,o2,o3⟩:=hok b (List.mem_of_getElem? hb)
    rw [blocksS_tailK _ _ _ _ _ _ hs b hb] at h0 ⊢
    rw [blocksS_tailK _ _ _ _ _ _ (show (lks s l).fin=0 from hs) b' hb',gBlocks,hb,hb']
    have hrun:=inss_sim hS hC hnf hI o1 (hJ0 at_ s regs hE) hr l
    dsimp only
    generalize runIns (insS p (callsS p (callK p N d)) at_) b.ins s regs=z at h0 hrun ⊢
    unfold tailK at h0 ⊢
    by_cases hz:z.1.fin=0
    ·obtain ⟨r1,j1,l1,e1,s1⟩:=hrun hz
     rw [e1]
     rw [if_pos hz] at h0 ⊢
     rw [if_pos (show (lks z.1 l1).fin=0 from hz),stepS_lks]
     by_cases ht:(stepS z.1).fin=0
     ·rw [if_pos ht] at h0 ⊢
      rw [if_pos (show (lks (stepS z.1) l1).fin=0 from ht)]
      have s1':=s1
      rw [← stepS_leaks z.1] at s1'
      have hR:∃ at_ s,J at_ s z.2:=⟨_,_,j1⟩
      by_cases k3:b.term.kind=3
      ·obtain ⟨t1,t2⟩:=hT.ret k3
       rw [if_pos k3] at h0 ⊢
       rw [if_pos t1,if_pos k3,t2 z.2 hR r1]
       exact ⟨fit_arg r1.fit o2.a,l1,rfl,s1'.seq (Sim.none _ _)⟩
      ·rw [if_neg k3] at h0 ⊢
       rw [if_neg k3]
       by_cases k1:b.term.kind=1
       ·obtain ⟨t1,t2,t3⟩:=hT.jump k1
        rw [if_pos k1] at h0 ⊢
        rw [if_neg (show ¬ b'.term.kind=3 by omega),if_pos t1,if_pos k1,t2]
        obtain ⟨i1,l2,i2,i3⟩:=ih b.term.goto (stepS z.1) z.2 l1 r1 (t3 z.2 hR r1) h0
        exact ⟨i1,l2,i2,s1'.seq i3⟩
       ·have k2:b.term.kind=2:=by omega
        rw [if_neg k1] at h0 ⊢
        rw [if_neg k1]
        by_cases hh:holdsS b.term.op (argS z.2 b.term.a) (argS z.2 b.term.b)=true
        ·obtain ⟨t1,t2⟩:=hT.yes k2 z.2 hR r1 hh
         rw [if_pos hh] at h0 ⊢
         rcases t2 with ⟨t2,t3⟩|⟨t2,t3,t4⟩
         ·rw [if_neg (show ¬ b'.term.kind=3 by omega),if_pos t2,t3]
          obtain ⟨i1,l2,i2,i3⟩:=ih b.term.goto (leakS (stepS z.1) (leakB true)) z.2 l1 r1 t1 h0
          refine ⟨i1,l2,i2,s1'.seq (Sim.one (l:=leakB true) ?_)⟩
          rw [if_pos (show (leakB true).a=1 from rfl),if_neg (by rw [decide_eq_true_eq];omega)]
          exact i3
         ·rw [if_neg (show ¬ b'.term.kind=3 by omega),if_neg (show ¬ b'.term.kind=1 by omega),if_pos t4,t3]
          obtain ⟨i1,l2,i2,i3⟩:=ih b.term.goto (leakS (stepS z.1) (leakB true)) z.2 (leakB true::l1) r1 t1 h0
          refine ⟨i1,l2,i2,s1'.seq (Sim.one (l:=leakB true) ?_)⟩
          rw [if_pos (show (leakB true).a=1 from rfl),if_pos (by rw [decide_eq_true_eq];omega)]
          exact i3
        ·have hh':holdsS b.term.op (argS z.2 b.term.a) (argS z.2 b.term.b)=false:=by simpa using hh
         obtain ⟨t1,t2⟩:=hT.no k2 z.2 hR r1 hh'
         rw [if_neg hh] at h0 ⊢
         rcases t2 with ⟨t2,t3⟩|⟨t2,t3,t4⟩
         ·rw [if_neg (show ¬ b'.term.kind=3 by omega),if_pos t2,t3]
          obtain ⟨i1,l2,i2,i3⟩:=ih b.term.els (leakS (stepS z.1) (leakB false)) z.2 l1 r1 t1 h0
          refine ⟨i1,l2,i2,s1'.seq (Sim.one (l:=leakB false) ?_)⟩
          rw [if_neg (show ¬ (leakB false).a=1 by decide),if_neg (by rw [decide_eq_true_eq];omega)]
          exact i3
         ·rw [if_neg (show ¬ b'.term.kind=3 by omega),if_neg (show ¬ b'.term.kind=1 by omega),if_neg (by rw [t4];decide),t3]
          obtain ⟨i1,l2,i2,i3⟩:=ih b.term.els (leakS (stepS z.1) (leakB false)) z.2 (leakB false::l1) r1 t1 h0
          refine ⟨i1,l2,i2,s1'.seq (Sim.one (l:=leakB false) ?_)⟩
          rw [if_neg (show ¬ (leakB false).a=1 by decide),if_pos (by rw [decide_eq_true_eq];omega)]
          exact i3
     ·rw [if_neg ht] at h0
      exact absurd h0 ht
    ·rw [if_neg hz] at h0
     exact absurd h0 hz
  ·have e1:blocksS (insS p (callsS p (callK p N d)) at_) f (k+1) bi s regs=(0,s,regs):=by rw [blocksS,if_neg hs]
   rw [e1] at h0
   exact absurd h0 hs
structure PassSim (p q:ProgS):Prop extends SameP p q where
 nf:p.funcs.length≤1000000
 ok:p.ok
 right:rightP p=true
 sim:∀ (i:Nat) (f f':FuncS),p.funcs[i]?=some f→q.funcs[i]?=some f'→FuncSim p q f f'
theorem PassSim.func {p q:ProgS} (h:PassSim p q) {f:FuncS} (hf:f∈p.funcs):funcOK p f=true:=by
 have:=h.right
 unfold rightP at this
 simp only [Bool.and_eq_true] at this
 exact List.all_eq_true.1 this.2 f hf
theorem call_sim {p q:ProgS} (h:PassSim p q) (N:Nat):∀ d,CallSim p q N d:=by
 intro d
 induction d with
 | zero=>intro s n args l _ _ _;exact ⟨fit0R,l,rfl,Sim.none _ _⟩
 | succ d ih =>
  intro s n args l ha hp h0
  rw [callK] at h0 ⊢
  by_cases h1:100 < s.deep+1
  ·rw [if_pos h1] at h0
   exact absurd h0 (stopS_fin _ (by decide))
  ·rw [if_neg h1] at h0 ⊢
   rw [callK,if_neg (show ¬ 100 < (lks s l).deep+1 from h1),gCall]
   cases hf:p.funcs[n.toNat]? with
   | none =>
    have hf':q.funcs[n.toNat]?=none:=by rw [List.getElem?_eq_none_iff] at hf ⊢;have:=h.len;omega
    rw [hf']
    exact ⟨fit0R,l,rfl,Sim.none _ _⟩
   | some f =>
    have hl:=(List.getElem?_eq_some_iff.1 hf).1
    obtain ⟨f',hf'⟩:∃ f',q.funcs[n.toNat]?=some f':=⟨_,List.getElem?_eq_getElem (by have:=h.len;omega)⟩
    have hfm:=List.mem_of_getElem? hf
    have hfo:=h.func hfm
    have hfk:=h.ok.funcs f hfm
    unfold funcOK at hfo
    simp only [Bool.and_eq_true,decide_eq_true_eq] at hfo
    have hpar:f.params=(args.length:Int):=by
     unfold paramsAt at hp
     split at hp
     ·rw [hf] at hp;simpa using hp
     ·cases hp
    obtain ⟨E,hE0,hB⟩:=(h.sim _ f f' hf hf').sim
    have hfs:=h.sim _ f f' hf hf'
    rw [hf] at h0
    rw [hf']
    dsimp only at h0 ⊢
    have hregs:regsS f' args=regsS f args:=by unfold regsS;rw [hfs.regs]
    have hr:Regs f.regs.toNat (regsS f args):=by
     refine ⟨by unfold regsS;simp;omega,fun v hv=>?_⟩
     unfold regsS at hv
     rcases List.mem_append.1 hv with e|e
     ·exact ha v (by simpa using e)
     ·rw [(List.mem_replicate.1 e).2];exact fit0R
    have hsp:spDone (lks s l) f'=lks (spDone s f) l:=by unfold spDone;rw [hfs.slots];rfl
    have hok:∀ b∈f.blocks,(∀ x∈b.ins,x.ok∧rightS p f x=true)∧b.term.ok∧1≤b.term.kind∧b.term.kind≤3:=by
     intro b hb
     have hbo:=List.all_eq_true.1 hfo.2 b hb
     have hbk:=hfk.blocks b hb
     unfold blockOK at hbo
     simp only [Bool.and_eq_true] at hbo
     have he:=hbo.2
     unfold endsS at he
     simp only [Bool.and_eq_true,decide_eq_true_eq] at he
     exact ⟨fun x hx=>⟨hbk.ins x hx,List.all_eq_true.1 hbo.1 x hx⟩,hbk.term,he.1.1.1.1,he.1.1.1.2⟩
    obtain ⟨i1,l',i2,i3⟩:=blocks_sim h.toSameP ih h.nf hfs.len hB hok (rowAt s.sp f.slots f.slots.length) N 0 (spDone s f) (regsS f args) l hr (hE0 _ hr) h0
    refine ⟨i1,l',?_,i3⟩
    rw [hfs.slots,hregs,hsp]
    rw [show (lks s l).sp=s.sp from rfl,i2]
    rfl
theorem run_sim {p q:ProgS} (h:PassSim p q) (N:Nat) (pub sec:List Int) (fuel:Int) (h0:(runS p N pub sec fuel).fin=0) :
 ∃ l',runS q N pub sec fuel=lks (runS p N pub sec fuel) l'∧gCall p q N 101 p.main (runS p N pub sec fuel).leaks.reverse=some (l'.reverse,[]):=by
 have hm:paramsAt p p.main=some 0:=by
  have:=h.right
  unfold rightP at this
  simp only [Bool.and_eq_true,decide_eq_true_eq] at this
  exact this.1.1.1.1
 have hd:dataS q pub sec=dataS p pub sec:=by unfold dataS;rw [h.glob,h.data]
 unfold runS at h0 ⊢
 rw [hd,h.main]
 generalize hst:startS fuel (dataS p pub sec) (List.replicate 416000 0)=st at *
 have hl:st.leaks=[]:=by rw [← hst];rfl
 have h1:(callK p N 101 st p.main []).2.fin=0:=by
  unfold endS at h0
  split at h0
  ·assumption
  ·exact h0
 obtain ⟨_,l',e,n,qn,g1,g2,g3⟩:=call_sim h N 101 st p.main [] [] (fun v hv=>by cases hv) hm h1
 have hself:lks st []=st:=by rw [← hl];rfl
 rw [hself] at e
 rw [e]
 unfold endS
 rw [if_pos h1,if_pos (show (lks (callK p N 101 st p.main []).2 l').fin=0 from h1)]
 refine ⟨l',rfl,?_⟩
 show gCall p q N 101 p.main (callK p N 101 st p.main []).2.leaks.reverse=_
 rw [g1,g2,hl]
 have:=g3 []
 simpa using this
theorem run_two {p q:ProgS} (h:PassSim p q) (N:Nat) (pub sec pub' sec':List Int) (fuel:Int) (h0:(runS p N pub sec fuel).fin=0) (h1:(runS p N pub' sec' fuel).fin=0) (hl:(runS p N pub sec fuel).leaks=(runS p N pub' sec' fuel).leaks):(runS q N pub sec fuel).leaks=(runS q N pub' sec' fuel).leaks:=by
 obtain ⟨l1,e1,g1⟩:=run_sim h N pub sec fuel h0
 obtain ⟨l2,e2,g2⟩:=run_sim h N pub' sec' fuel h1
 rw [hl,g2] at g1
 have:l1.reverse=l2.reverse:=by injection g1 with g1;injection g1 with g1;exact g1.symm
 rw [e1,e2]
 exact List.reverse_inj.1 this
def HoldF (f:FactS) (v:Int):Prop:=(f.kind=1∧v=f.n)∨f.kind=2
structure FactsOK (l:List FactS) (regs:List Int):Prop where
 len:l.length=regs.length
 at_:∀ (i:Nat) (f:FactS) (v:Int),l[i]?=some f→regs[i]?=some v→HoldF f v
def valS (p:ProgS) (at_:List Int) (regs:List Int) (x:InsS):Int :=
 if x.op=1∨x.op=2 then argS regs x.a
 else if twoS x.op=true then (reckonS x.op (argS regs x.a) (argS regs x.b)).1
 else if x.op=22 then widenS (argS regs x.a) x.size x.signed
 else if x.op=23 then i64 (i64 (65536+placeOf p x.ref)+x.off)
 else if x.op=24 then i64 (atOf at_ x.ref+x.off)
 else 4194304+16 * x.ref
theorem insS_pure {p:ProgS} {cl:RunS→List Int→InsS→Int × RunS} {at_:List Int} {s:RunS} {regs:List Int} {x:InsS} (hp:pureS x.op=true) (h0:(insS p cl at_ s regs x).1.fin=0) :
 (stepS s).fin=0∧insS p cl at_ s regs x=(stepS s,setReg regs x.dst (valS p at_ regs x))∧(twoS x.op=true→(reckonS x.op (argS regs x.a) (argS regs x.b)).2=true):=by
 have hp:=pure_iff.1 hp
 unfold insS at h0 ⊢
 unfold valS
 by_cases hs:(stepS s).fin=0
 ·rw [if_pos hs] at h0 ⊢
  refine ⟨hs,?_⟩
  by_cases o1:x.op=1∨x.op=2
  ·rw [if_pos o1,if_pos o1]
   exact ⟨rfl,fun h=>by have:=two_iff.1 h;omega⟩
  rw [if_neg o1] at h0 ⊢
  rw [if_neg o1]
  by_cases o2:twoS x.op=true
  ·rw [if_pos o2] at h0 ⊢
   rw [if_pos o2]
   by_cases q:(reckonS x.op (argS regs x.a) (argS regs x.b)).2=true
   ·rw [if_pos q];exact ⟨rfl,fun _=>q⟩
   ·rw [if_neg q] at h0
    exact absurd h0 (stopS_fin _ (by decide))
  rw [if_neg o2] at h0 ⊢
  rw [if_neg o2]
  refine ⟨?_,fun h=>absurd h o2⟩
  have ht:¬ (3≤x.op∧x.op≤21):=fun h=>o2 (two_iff.2 h)
  by_cases o3:x.op=22
  ·rw [if_pos o3,if_pos o3]
  rw [if_neg o3,if_neg o3]
  by_cases o4:x.op=23
  ·rw [if_pos o4,if_pos o4]
  rw [if_neg o4,if_neg o4]
  by_cases o5:x.op=24
  ·rw [if_pos o5,if_pos o5]
  rw [if_neg o5,if_neg o5,if_pos (show x.op=25 by omega)]
 ·rw [if_neg hs] at h0
  exact absurd h0 hs
theorem ins_same {p q:ProgS} (hg:q.globals=p.globals) {cl cl':RunS→List Int→InsS→Int × RunS} {at_:List Int} {s:RunS} {regs:List Int} {x x':InsS} (hc:¬ (x.op=28∨x.op=29)) (hop:1≤x.op∧x.op≤30) (l:List LeakS)
 (e1:x'.op=x.op) (e2:x'.dst=x.dst) (e3:x'.size=x.size) (e4:x'.signed=x.signed) (e5:x'.ref=x.ref) (e6:x'.off=x.off) (ea:argS regs x'.a=argS regs x.a) (eb:argS regs x'.b=argS regs x.b) (h0:(insS p cl at_ s regs x).1.fin=0) :
 ∃ l',insS q cl' at_ (lks s l) regs x'=(lks (insS p cl at_ s regs x).1 l',(insS p cl at_ s regs x).2)∧∀ gc,Sim (gIns gc x x') s.leaks (insS p cl at_ s regs x).1.leaks l l':=by
 have hpl:placeOf q x.ref=placeOf p x.ref:=by unfold placeOf;rw [hg]
 have key:∀ gc,¬ (x.op=26∨x.op=27)→Sim (gIns gc x x') s.leaks (stepS s).leaks l l:=by
  intro gc hn
  unfold gIns
  rw [if_neg hn,if_neg (by omega),if_neg (by omega),stepS_leaks]
  exact Sim.none _ _
 unfold insS at h0 ⊢
 by_cases hs:(stepS s).fin=0
 ·rw [if_pos hs] at h0 ⊢
  rw [stepS_lks,if_pos (show (lks (stepS s) l).fin=0 from hs),e1,e2,e3,e4,e5,e6,ea,eb,hpl]
  by_cases o1:x.op=1∨x.op=2
  ·rw [if_pos o1,if_pos o1]
   exact ⟨l,rfl,fun gc=>key gc (by omega)⟩
  rw [if_neg o1] at h0 ⊢
  rw [if_neg o1]
  by_cases o2:twoS x.op=true
  ·have h2:=two_iff.1 o2
   rw [if_pos o2] at h0 ⊢
   rw [if_pos o2]
   by_cases q:(reckonS x.op (argS regs x.a) (argS regs x.b)).2=true
   ·rw [if_pos q,if_pos q]
    exact ⟨l,rfl,fun gc=>key gc (by omega)⟩
   ·rw [if_neg q] at h0
    exact absurd h0 (stopS_fin _ (by decide))
  rw [if_neg o2] at h0 ⊢
  rw [if_neg o2]
  have ht:¬ (3≤x.op∧x.op≤21):=fun h=>o2 (two_iff.2 h)
  by_cases o3:x.op=22
  ·rw [if_pos o3,if_pos o3]
   exact ⟨l,rfl,fun gc=>key gc (by omega)⟩
  rw [if_neg o3] at h0 ⊢
  rw [if_neg o3]
  by_cases o4:x.op=23
  ·rw [if_pos o4,if_pos o4]
   exact ⟨l,rfl,fun gc=>key gc (by omega)⟩
  rw [if_neg o4] at h0 ⊢
  rw [if_neg o4]
  by_cases o5:x.op=24
  ·rw [if_pos o5,if_pos o5]
   exact ⟨l,rfl,fun gc=>key gc (by omega)⟩
  rw [if_neg o5] at h0 ⊢
  rw [if_neg o5]
  by_cases o6:x.op=25
  ·rw [if_pos o6,if_pos o6]
   exact ⟨l,rfl,fun gc=>key gc (by omega)⟩
  rw [if_neg o6] at h0 ⊢
  rw [if_neg o6]
  have one:∀ gc a',x.op=26∨x.op=27→∀ k:LeakS,a'=k::(stepS s).leaks→Sim (gIns gc x x') s.leaks a' l (k::l):=by
   intro gc a' ho k ha
   unfold gIns
   rw [if_pos ho,ha,stepS_leaks]
   refine Sim.one (l:=k) ?_
   rw [if_pos (by rw [e1];exact decide_eq_true rfl)]
   exact Sim.none _ _
  by_cases o7:x.op=26
  ·rw [if_pos o7,if_pos o7,loadS_lks]
   exact ⟨_,rfl,fun gc=>one gc _ (.inl o7) _ (loadS_leaks _ _ _ _)⟩
  rw [if_neg o7] at h0 ⊢
  rw [if_neg o7]
  by_cases o8:x.op=27
  ·rw [if_pos o8,if_pos o8,storeS_lks]
   exact ⟨_,rfl,fun gc=>one gc _ (.inr o8) _ (storeS_leaks _ _ _ _)⟩
  rw [if_neg o8] at h0 ⊢
  rw [if_neg o8]
  have o9:x.op=30:=by omega
  rw [if_pos o9] at h0 ⊢
  rw [if_pos o9]
  by_cases q:(stepS s).out.length=10000
  ·rw [if_pos q] at h0
   exact absurd h0 (stopS_fin _ (by decide))
  ·rw [if_neg q,if_neg (show ¬ (lks (stepS s) l).out.length=10000 from q)]
   exact ⟨l,rfl,fun gc=>key gc (by omega)⟩
 ·rw [if_neg hs] at h0
  exact absurd h0 hs
theorem pure_sim {p q:ProgS} {cl cl':RunS→List Int→InsS→Int × RunS} {at_:List Int} {s:RunS} {regs:List Int} {x x':InsS} (hp:pureS x.op=true) (h0:(insS p cl at_ s regs x).1.fin=0) (l:List LeakS) (h1:x'.op=1∨x'.op=2) (hd:x'.dst=x.dst) (hv:argS regs x'.a=valS p at_ regs x) :
 ∃ l',insS q cl' at_ (lks s l) regs x'=(lks (insS p cl at_ s regs x).1 l',(insS p cl at_ s regs x).2)∧∀ gc,Sim (gIns gc x x') s.leaks (insS p cl at_ s regs x).1.leaks l l':=by
 obtain ⟨h2,h3,_⟩:=insS_pure hp h0
 have hp:=pure_iff.1 hp
 rw [h3]
 refine ⟨l,?_,fun gc=>?_⟩
 ·unfold insS
  rw [stepS_lks,if_pos (show (lks (stepS s) l).fin=0 from h2),if_pos h1,hd,hv]
 ·unfold gIns
  rw [if_neg (by omega),if_neg (by omega),if_neg (by omega)]
  show Sim gNone s.leaks (stepS s).leaks l l
  rw [stepS_leaks]
  exact Sim.none _ _
def FoldR' (f f':FuncS):Prop:=∃ bl',FoldS f.regs f.blocks bl'∧f'={ f with blocks:=bl' }
def okA (regs:Int) (a:ArgS):Prop:=-1≤a.reg∧a.reg < regs
theorem argsS_iff {regs:Int} {l:List ArgS}:argsS regs l=true↔∀ a∈l,okA regs a:=by
 unfold argsS okA
 simp only [List.all_eq_true,Bool.and_eq_true,decide_eq_true_eq]
structure RightI (p:ProgS) (f:FuncS) (x:InsS):Prop where
 op:1≤x.op∧x.op≤30
 reads:∀ a∈readsS x,okA f.regs a
 dst:-1≤x.dst∧x.dst < f.regs
 right:rightT p f x=true
theorem rightS_iff {p:ProgS} {f:FuncS} {x:InsS}:rightS p f x=true↔RightI p f x:=by
 unfold rightS
 simp only [Bool.and_eq_true,decide_eq_true_eq,argsS_iff]
 exact ⟨fun h=>⟨h.1.1.1.1,h.1.1.1.2,⟨h.1.1.2,h.1.2⟩,h.2⟩,fun h=>⟨⟨⟨⟨h.op,h.reads⟩,h.dst.1⟩,h.dst.2⟩,h.right⟩⟩
structure LikeP (p q:ProgS):Prop where
 glob:q.globals.length=p.globals.length
 len:q.funcs.length=p.funcs.length
 par:∀ n,paramsAt q n=paramsAt p n
theorem rightT_same {p q:ProgS} (h:LikeP p q) {f f':FuncS} (hs:f'.slots.length=f.slots.length) {x x':InsS} (e1:x'.op=x.op) (e2:x'.dst=x.dst) (e3:x'.size=x.size) (e4:x'.ref=x.ref) (e5:x'.args.length=x.args.length):rightT q f' x'=rightT p f x:=by
 unfold rightT
 rw [e1,e2,e3,e4,e5,h.glob,h.len,h.par,hs]
theorem rightT_two {p:ProgS} {f:FuncS} {x:InsS} (h:(1≤x.op∧x.op≤21)):rightT p f x=decide (0≤x.dst):=by
 unfold rightT
 rw [if_neg (by omega),if_neg (by omega),if_neg (by omega),if_neg (by omega),if_neg (by omega),if_neg (by omega),if_neg (by omega),if_neg (by omega)]
theorem right_plain {q:ProgS} {f':FuncS} {op dst:Int} {a:ArgS} (ho:op=1∨op=2) (h0:0≤dst) (h1:dst < f'.regs) (ha:okA f'.regs a):RightI q f' (plainI op dst a):=by
 refine ⟨by show 1≤op∧op≤30;omega,fun b hb=>?_,⟨by show -1≤dst;omega,h1⟩,?_⟩
 ·have:readsS (plainI op dst a)=[a]:=by
   unfold readsS plainI
   dsimp only
   rw [if_neg (by omega),if_neg (by omega),if_neg (fun h=>by
    rcases h with h|h
    ·have:=two_iff.1 h;omega
    ·omega),if_neg (by omega)]
  rw [this] at hb
  rw [List.mem_singleton.1 hb];exact ha
 ·rw [rightT_two (by show 1≤op∧op≤21;omega)]
  exact decide_eq_true h0
structure RightT (f:FuncS) (n:Nat) (t:TermS):Prop where
 kind:1≤t.kind∧t.kind≤3
 reads:∀ a∈treadsS t,okA f.regs a
 op:t.kind=2→16≤t.op∧t.op≤21
 next:∀ o∈nextS t,0≤o∧o < n
theorem endsS_iff {f:FuncS} {t:TermS}:endsS f t=true↔RightT f f.blocks.length t:=by
 unfold endsS targetsS
 simp only [Bool.and_eq_true,decide_eq_true_eq,argsS_iff,List.all_eq_true,Bool.or_eq_true,Bool.not_eq_true',beq_eq_false_iff_ne,ne_eq]
 constructor
 ·rintro ⟨⟨⟨h1,h2⟩,h3⟩,h4⟩
  refine ⟨h1,h2,fun hk=>?_,h4⟩
  rcases h3 with h3|h3
  ·exact absurd hk h3
  ·exact h3
 ·intro h
  refine ⟨⟨⟨h.kind,h.reads⟩,?_⟩,h.next⟩
  by_cases hk:t.kind=2
  ·exact .inr (h.op hk)
  ·exact .inl hk
structure RightF (p:ProgS) (f:FuncS):Prop where
 params:0≤f.params∧f.params≤f.regs∧f.params≤6
 secret:(f.secret:Int)=f.params
 pos:0 < f.blocks.length
 ins:∀ b∈f.blocks,∀ x∈b.ins,RightI p f x
 term:∀ b∈f.blocks,RightT f f.blocks.length b.term
theorem funcOK_iff {p:ProgS} {f:FuncS}:funcOK p f=true↔RightF p f:=by
 unfold funcOK blockOK
 simp only [Bool.and_eq_true,decide_eq_true_eq,List.all_eq_true,rightS_iff,endsS_iff]
 exact ⟨fun h=>⟨⟨h.1.1.1.1.1,h.1.1.1.1.2,h.1.1.1.2⟩,h.1.1.2,h.1.2,fun b hb=>(h.2 b hb).1,fun b hb=>(h.2 b hb).2⟩,fun h=>⟨⟨⟨⟨⟨h.params.1,h.params.2.1⟩,h.params.2.2⟩,h.secret⟩,h.pos⟩,fun b hb=>⟨h.ins b hb,h.term b hb⟩⟩⟩
structure TurnP (R:FuncS→FuncS→Prop) (p q:ProgS):Prop where
 glob:q.globals=p.globals
 data:q.data=p.data
 main:q.main=p.main
 len:q.funcs.length=p.funcs.length
 rel:∀ (i:Nat) (f f':FuncS),p.funcs[i]?=some f→q.funcs[i]?=some f'→R f f'
theorem TurnP.same {R:FuncS→FuncS→Prop} {p q:ProgS} (h:TurnP R p q) (hp:∀ f f',R f f'→f'.params=f.params):SameP p q:=by
 refine ⟨h.glob,h.data,h.main,h.len,fun n=>?_⟩
 unfold paramsAt
 split
 ·cases hf:p.funcs[n.toNat]? with
  | none =>
   have hf':q.funcs[n.toNat]?=none:=by rw [List.getElem?_eq_none_iff] at hf ⊢;have:=h.len;omega
   rw [hf']
  | some f =>
   have hl:=(List.getElem?_eq_some_iff.1 hf).1
   obtain ⟨f',hf'⟩:∃ f',q.funcs[n.toNat]?=some f':=⟨_,List.getElem?_eq_getElem (by have:=h.len;omega)⟩
   rw [hf']
   simp only [Option.map_some,hp f f' (h.rel _ f f' hf hf')]
 ·rfl
theorem SameP.like {p q:ProgS} (h:SameP p q):LikeP p q:=⟨by rw [h.glob],h.len,h.par⟩
theorem placed_same {p q:ProgS} (h:SameP p q) (g:GlobS):placedS q g=placedS p g:=by
 unfold placedS
 rw [h.data,h.len]
theorem turn_right {R:FuncS→FuncS→Prop} {p q:ProgS} (h:TurnP R p q) (hS:SameP p q) (hr:rightP p=true) (hR:∀ f f',f∈p.funcs→R f f'→RightF p f→RightF q f'):rightP q=true:=by
 unfold rightP at hr ⊢
 simp only [Bool.and_eq_true,decide_eq_true_eq,List.all_eq_true,funcOK_iff] at hr ⊢
 obtain ⟨⟨⟨⟨h1,h2⟩,h3⟩,h4⟩,h5⟩:=hr
 refine ⟨⟨⟨⟨by rw [h.main,hS.par];exact h1,by rw [h.data];exact h2⟩,by rw [h.data];exact h3⟩,fun g hg=>?_⟩,fun f' hf'=>?_⟩
 ·rw [h.glob] at hg
  rw [placed_same hS];exact h4 g hg
 ·obtain ⟨k,hk⟩:=List.mem_iff_getElem?.1 hf'
  have hl:=(List.getElem?_eq_some_iff.1 hk).1
  obtain ⟨f,hf⟩:∃ f,p.funcs[k]?=some f:=⟨_,List.getElem?_eq_getElem (by have:=h.len;omega)⟩
  have hm:=List.mem_of_getElem? hf
  exact hR f f' hm (h.rel k f f' hf hk) (h5 f hm)
def fsizeS (bl:List BlockS):Nat:=(bl.map fun b=>b.ins.length+1).sum
def psizeS (p:ProgS):Nat:=(p.funcs.map fun f=>fsizeS f.blocks).sum
attribute [local irreducible] W RS
def factC (f:FactS):List Value:=[.int .i64 f.kind,.int .i64 f.n]
def factsC (l:List FactS):List Value:=l.flatMap factC
inductive FaAt (h:Hp):Option Addr→List FactS→Prop
 | none:FaAt h Option.none []
 | some {b:Nat} {l:List FactS} (hm:h.m b=Option.some ⟨⟨factsC l⟩,145⟩) (hr:rwM≤b):FaAt h (Option.some ⟨b,0,Option.none⟩) l
def faH (h:Hp) (A:Option Addr) (l:List FactS):Hp:=match A with
 | some a=>h.set a.block ⟨⟨factsC l⟩,145⟩
 | none=>h
theorem base_up {h H:Hp} (hd:∀ i b,h.m i=some b→i < h.n) (hH:∀ id,id < h.n→H.m id=h.m id):∀ i b,h.m i=some b→H.m i=some b:=fun i b hb=>by rw [hH i (hd i b hb)];exact hb
def simpleV (x:InsS) (A:Option Addr) (c:Nat):List Value :=
 if 3≤x.op∧x.op≤15∧x.b.reg < 0 then
  if x.b.num=0∧(x.op=3∨x.op=4∨x.op=11∨x.op=12∨13≤x.op) then insC (plainI 2 x.dst x.a) none 0
  else if x.b.num=0∧(x.op=5∨x.op=10) then insC (plainI 1 x.dst ⟨-1,0⟩) none 0
  else if x.b.num=1∧(x.op=5∨x.op=6∨x.op=7) then insC (plainI 2 x.dst x.a) none 0
  else insC x A c
 else insC x A c
theorem insC_bd {n:Nat} (x:InsS) {A:Option Addr} {c:Nat} (hA:∀ a,A=some a→a.block < n):∀ v∈insC x A c,bnd n v:=by
 intro v hv
 simp only [insC,List.mem_cons,List.not_mem_nil,or_false] at hv
 rcases hv with e|e|e|e|e|e|e|e|e|e|e|e<;>subst e
 any_goals simp
 cases A with
 | none=>simp
 | some a=>simpa using hA a rfl
def rowsV:List Nat→List (List FactS)→List Value
 | a::al,l::ls=>rowVl 2 a l::rowsV al ls
 | _,_=>[]
structure SolAt (h:Hp) (N sb fb ib nb:Nat) (al:List Nat) (n:Nat) (s:SolS):Prop where
 rw:rwM≤N
 alen:al.length=n
 ilen:s.ins.length=n
 slen:s.seen.length=n
 gs:N≤sb
 gi:N≤ib
 gn:N≤nb
 hi:h.m ib=some ⟨⟨rowsV al s.ins⟩,143⟩
 hn:h.m nb=some ⟨⟨s.seen.map .bool⟩,4⟩
 row:∀ (i a:Nat) (l:List FactS),al[i]?=some a→s.ins[i]?=some l→l≠[]→N≤a∧h.m a=some ⟨⟨factsC l⟩,145⟩
 sep:∀ (i j a:Nat) (l m:List FactS),al[i]?=some a→al[j]?=some a→s.ins[i]?=some l→s.ins[j]?=some m→l≠[]→m≠[]→i=j
 stk:∃ A cap,h.m sb=some ⟨⟨[.pointer (some ⟨fb,0,none⟩),.slice (some ⟨ib,0,none⟩) n n,.slice (some ⟨nb,0,none⟩) n n,.slice A s.work.length cap]⟩,141⟩∧StkRow h 3 A cap (intsV s.work)∧∀ a,A=some a→N≤a.block
section
variable {h H:Hp} {N sb fb ib nb:Nat} {al:List Nat} {n:Nat} {s:SolS}
theorem set_get {α:Type} {l:List α} {k i:Nat} {x y:α} (h:(l.set k x)[i]?=some y):(i=k∧y=x)∨(i≠k∧l[i]?=some y):=by
 rw [List.getElem?_set] at h
 by_cases e:k=i
 ·rw [if_pos e] at h
  split at h
  ·injection h with h;exact .inl ⟨e.symm,h.symm⟩
  ·cases h
 ·rw [if_neg e] at h;exact .inr ⟨fun e'=>e e'.symm,h⟩
def SolE (e:TypeId):Prop:=e=143∨e=4∨e=145∨e=141∨e=3
end
end Go.Proofs.YtjhloakacicdiaaDoor
