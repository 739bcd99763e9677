/-
  What the functions that the law reaches compute,told by plain data;it holds of programs that pass the check of right form and are light.
-/
import Derived.Test.YtjhloakacicdiaaDoorR10
import Derived.Test.YtjhloakacicdiaaDoorR13
import Derived.Test.YtjhloakacicdiaaDoorR5
import Derived.Test.YtjhloakacicdiaaDoorR6
set_option linter.unusedVariables false
set_option linter.unusedSimpArgs false
namespace Go.Proofs.YtjhloakacicdiaaDoor
open Go.AH
abbrev Gh:=List LeakS→Option (List LeakS × List LeakS)
def gNone:Gh:=fun tr=>some ([],tr)
def gSeq (a b:Gh):Gh:=fun tr=>match a tr with
 | none=>none
 | some (o,r)=>match b r with
  | none=>none
  | some (o2,r2)=>some (o++o2,r2)
def gOne (keep:Bool) (k:LeakS→Gh):Gh:=fun tr=>match tr with
 | []=>none
 | l::r=>match k l r with
  | none=>none
  | some (o,r')=>some ((if keep=true then [l] else [])++o,r')
def gIns (gc:Int→Gh) (x x':InsS):Gh :=
 if x.op=26∨x.op=27 then gOne (decide (x'.op=x.op)) fun _=>gNone
 else if x.op=28 then gc x.ref
 else if x.op=29 then gOne true fun l=>gc (funcAt l.a)
 else gNone
def gInss (gc:Int→Gh):List InsS→List InsS→Gh
 | x::xs,x'::xs'=>gSeq (gIns gc x x') (gInss gc xs xs')
 | _,_=>gNone
def gBlocks (gc:Int→Gh) (bl bl':List BlockS):Nat→Int→Gh
 | 0,_=>gNone
 | k+1,bi=>match bl[bi.toNat]?,bl'[bi.toNat]? with
  | some b,some b'=>gSeq (gInss gc b.ins b'.ins)
   (if b.term.kind=3 then gNone
   else if b.term.kind=1 then gBlocks gc bl bl' k b.term.goto
   else gOne (decide (b'.term.kind=2)) fun l=>if l.a=1 then gBlocks gc bl bl' k b.term.goto else gBlocks gc bl bl' k b.term.els)
  | _,_=>gNone
def gCall (p q:ProgS) (N:Nat):Nat→Int→Gh
 | 0,_=>gNone
 | d+1,n=>match p.funcs[n.toNat]?,q.funcs[n.toNat]? with
  | some f,some f'=>gBlocks (gCall p q N d) f.blocks f'.blocks N 0
  | _,_=>gNone
def Sim (g:Gh) (a a' b b':List LeakS):Prop:=∃ n qn,a'=n.reverse++a∧b'=qn.reverse++b∧∀ r,g (n++r)=some (qn,r)
theorem Sim.none (a b:List LeakS):Sim gNone a a b b:=⟨[],[],rfl,rfl,fun _=>rfl⟩
theorem Sim.seq {g1 g2:Gh} {a a1 a2 b b1 b2:List LeakS} (h1:Sim g1 a a1 b b1) (h2:Sim g2 a1 a2 b1 b2):Sim (gSeq g1 g2) a a2 b b2:=by
 obtain ⟨n1,q1,rfl,rfl,e1⟩:=h1
 obtain ⟨n2,q2,rfl,rfl,e2⟩:=h2
 refine ⟨n1++n2,q1++q2,by simp,by simp,fun r=>?_⟩
 unfold gSeq
 rw [List.append_assoc,e1]
 dsimp only
 rw [e2]
theorem Sim.one {keep:Bool} {k:LeakS→Gh} {a a' b b':List LeakS} {l:LeakS} (h:Sim (k l) (l::a) a' (if keep=true then l::b else b) b'):Sim (gOne keep k) a a' b b':=by
 obtain ⟨n,q,rfl,rfl,e⟩:=h
 refine ⟨l::n,(if keep=true then [l] else [])++q,by simp,?_,fun r=>?_⟩
 ·cases keep<;>simp
 ·simp only [gOne,List.cons_append,e]
def lks (s:RunS) (l:List LeakS):RunS:={ s with leaks:=l }
theorem stepS_lks (s:RunS) (l:List LeakS):stepS (lks s l)=lks (stepS s) l:=by
 unfold stepS
 by_cases h0:s.fin=0
 ·rw [if_pos (show (lks s l).fin=0 from h0),if_pos h0]
  by_cases h1:s.steps ≥ s.fuel
  ·rw [if_pos (show (lks s l).steps ≥ (lks s l).fuel from h1),if_pos h1];rfl
  ·rw [if_neg (show ¬ (lks s l).steps ≥ (lks s l).fuel from h1),if_neg h1];rfl
 ·rw [if_neg (show ¬ (lks s l).fin=0 from h0),if_neg h0]
theorem stepS_leaks (s:RunS):(stepS s).leaks=s.leaks:=by
 unfold stepS
 split
 ·split<;>rfl
 ·rfl
theorem stopS_lks (s:RunS) (e:Int) (l:List LeakS):stopS (lks s l) e=lks (stopS s e) l:=by
 unfold stopS
 by_cases h0:s.fin=0
 ·rw [if_pos (show (lks s l).fin=0 from h0),if_pos h0];rfl
 ·rw [if_neg (show ¬ (lks s l).fin=0 from h0),if_neg h0]
theorem stopS_leaks (s:RunS) (e:Int):(stopS s e).leaks=s.leaks:=by unfold stopS;split<;>rfl
theorem stopS_fin (s:RunS) {e:Int} (he:e≠0):¬ (stopS s e).fin=0:=by
 unfold stopS
 split
 ·exact he
 ·assumption
theorem leakS_lks (s:RunS) (x:LeakS) (l:List LeakS):leakS (lks s l) x=lks (leakS s x) (x::l):=rfl
theorem loadS_lks (s:RunS) (at_:Int) (n:Nat) (sg:Bool) (l:List LeakS):loadS (lks s l) at_ n sg=((loadS s at_ n sg).1,lks (loadS s at_ n sg).2 (⟨2,at_,0⟩::l)):=by
 unfold loadS
 by_cases h1:inData s at_ n
 ·rw [if_pos (show inData (lks s l) at_ n from h1),if_pos h1];rfl
 ·rw [if_neg (show ¬ inData (lks s l) at_ n from h1),if_neg h1]
  by_cases h2:inStack s at_ n
  ·rw [if_pos (show inStack (lks s l) at_ n from h2),if_pos h2];rfl
  ·rw [if_neg (show ¬ inStack (lks s l) at_ n from h2),if_neg h2,leakS_lks,stopS_lks]
theorem loadS_leaks (s:RunS) (at_:Int) (n:Nat) (sg:Bool):(loadS s at_ n sg).2.leaks=⟨2,at_,0⟩::s.leaks:=by
 unfold loadS
 split
 ·rfl
 ·split
  ·rfl
  ·rw [stopS_leaks];rfl
theorem storeS_lks (s:RunS) (at_:Int) (n:Nat) (v:Int) (l:List LeakS):storeS (lks s l) at_ n v=lks (storeS s at_ n v) (⟨3,at_,0⟩::l):=by
 unfold storeS
 by_cases h1:inData s at_ n
 ·rw [if_pos (show inData (lks s l) at_ n from h1),if_pos h1];rfl
 ·rw [if_neg (show ¬ inData (lks s l) at_ n from h1),if_neg h1]
  by_cases h2:inStack s at_ n
  ·rw [if_pos (show inStack (lks s l) at_ n from h2),if_pos h2];rfl
  ·rw [if_neg (show ¬ inStack (lks s l) at_ n from h2),if_neg h2,leakS_lks,stopS_lks]
theorem storeS_leaks (s:RunS) (at_:Int) (n:Nat) (v:Int):(storeS s at_ n v).leaks=⟨3,at_,0⟩::s.leaks:=by
 unfold storeS
 split
 ·rfl
 ·split
  ·rfl
  ·rw [stopS_leaks];rfl
structure Regs (r:Nat) (regs:List Int):Prop where
 len:regs.length=r
 fit:∀ v∈regs,fitI v
theorem Regs.set {r:Nat} {regs:List Int} (h:Regs r regs) (d:Int) {v:Int} (hv:fitI v):Regs r (setReg regs d v):=⟨by rw [setReg_len,h.len],setReg_fit h.fit hv⟩
structure InsSim (p q:ProgS) (r:Nat) (x x':InsS) (J J':List Int→RunS→List Int→Prop):Prop where
 call:(x.op=28∨x.op=29)→x'.op=x.op∧x'.dst=x.dst∧x'.ref=x.ref∧x'.args.length=x.args.length∧∀ at_ s regs,J at_ s regs→Regs r regs→argS regs x'.a=argS regs x.a∧accV regs x'.args x.args.length=accV regs x.args x.args.length∧∀ s1 v,fitI v→J' at_ s1 (setReg regs x.dst v)
 plain:¬ (x.op=28∨x.op=29)→∀ cl cl' at_ s regs l,J at_ s regs→Regs r regs→(insS p cl at_ s regs x).1.fin=0 →
  ∃ l',insS q cl' at_ (lks s l) regs x'=(lks (insS p cl at_ s regs x).1 l',(insS p cl at_ s regs x).2)∧(∀ gc,Sim (gIns gc x x') s.leaks (insS p cl at_ s regs x).1.leaks l l')∧J' at_ (insS p cl at_ s regs x).1 (insS p cl at_ s regs x).2
def CallSim (p q:ProgS) (N d:Nat):Prop:=∀ (s:RunS) (n:Int) (args:List Int) (l:List LeakS),(∀ v∈args,fitI v)→paramsAt p n=some (args.length:Int)→(callK p N d s n args).2.fin=0 →
 fitI (callK p N d s n args).1∧∃ l',callK q N d (lks s l) n args=((callK p N d s n args).1,lks (callK p N d s n args).2 l')∧Sim (gCall p q N d n) s.leaks (callK p N d s n args).2.leaks l l'
structure SameP (p q:ProgS):Prop where
 glob:q.globals=p.globals
 data:q.data=p.data
 main:q.main=p.main
 len:q.funcs.length=p.funcs.length
 par:∀ n,paramsAt q n=paramsAt p n
theorem insS_call {p:ProgS} {cl:RunS→List Int→InsS→Int × RunS} {at_:List Int} {s:RunS} {regs:List Int} {x:InsS} (h:x.op=28∨x.op=29):insS p cl at_ s regs x=if (stepS s).fin=0 then ((cl (stepS s) regs x).2,setReg regs x.dst (cl (stepS s) regs x).1) else (stepS s,regs):=by
 unfold insS
 have h2:twoS x.op=false:=by
  cases hb:twoS x.op with
  | false=>rfl
  | true=>have:=two_iff.1 hb;omega
 rw [if_neg (show ¬ (x.op=1∨x.op=2) by omega),h2,if_neg (show ¬ (false=true) by decide),if_neg (show ¬ x.op=22 by omega),if_neg (show ¬ x.op=23 by omega),if_neg (show ¬ x.op=24 by omega),if_neg (show ¬ x.op=25 by omega),if_neg (show ¬ x.op=26 by omega),if_neg (show ¬ x.op=27 by omega),if_neg (show ¬ x.op=30 by omega)]
theorem insS_regs {p:ProgS} {f:FuncS} {cl:RunS→List Int→InsS→Int × RunS} {at_:List Int} {s:RunS} {regs:List Int} {x:InsS} {r:Nat} (hr:Regs r regs) (hx:x.ok) (hR:rightS p f x=true) (hnf:p.funcs.length≤1000000) (hc:x.op=28∨x.op=29→fitI (cl (stepS s) regs x).1):Regs r (insS p cl at_ s regs x).2:=by
 have ha:fitI (argS regs x.a):=fit_arg hr.fit hx.a
 refine insS_elim (Q:=fun z=>Regs r z.2) (fun _=>hr) (fun _ _=>hr.set _ ha) (fun _ _=>hr.set _ (fit_reckon ha)) (fun _ _=>hr.set _ (fit_widen ha)) (fun _ _=>hr.set _ (fit_i64 _)) (fun _ _=>hr.set _ (fit_i64 _)) (fun _ h25=>hr.set _ ?_) (fun _ _=>hr.set _ (fit_loadS _ _ _ _)) (fun _ _=>hr) (fun _ _=>hr) (fun _ q1 q2 q3 q4=>hr.set _ (hc ?_))
 ·have h2:=hR
  unfold rightS at h2
  simp only [Bool.and_eq_true,decide_eq_true_eq] at h2
  have h3:=h2.2
  have hT:rightT p f x=(decide (0≤x.dst) && decide (0≤x.ref) && decide (x.ref < p.funcs.length)):=by
   unfold rightT
   rw [if_neg (by omega),if_neg (by omega),if_neg (by omega),if_neg (by omega),if_pos h25]
  rw [hT] at h3
  simp only [Bool.and_eq_true,decide_eq_true_eq] at h3
  exact ⟨by omega,by omega⟩
 ·have h2:=hR
  unfold rightS at h2
  simp only [Bool.and_eq_true,decide_eq_true_eq] at h2
  exact op_call ⟨h2.1.1.1.1.1,h2.1.1.1.1.2⟩ q1 q2 q3 q4
theorem ins_sim {p q:ProgS} (hS:SameP p q) {N d r:Nat} {f:FuncS} (hC:CallSim p q N d) {x x':InsS} {J J':List Int→RunS→List Int→Prop} (hI:InsSim p q r x x' J J') (hx:x.ok) (hR:rightS p f x=true) (hnf:p.funcs.length≤1000000) {at_:List Int} {s:RunS} {regs:List Int} (hJ:J at_ s regs) (hr:Regs r regs) (l:List LeakS)
 (h0:(insS p (callsS p (callK p N d)) at_ s regs x).1.fin=0) :
 Regs r (insS p (callsS p (callK p N d)) at_ s regs x).2∧J' at_ (insS p (callsS p (callK p N d)) at_ s regs x).1 (insS p (callsS p (callK p N d)) at_ s regs x).2 ∧
  ∃ l',insS q (callsS q (callK q N d)) at_ (lks s l) regs x'=(lks (insS p (callsS p (callK p N d)) at_ s regs x).1 l',(insS p (callsS p (callK p N d)) at_ s regs x).2)∧Sim (gIns (gCall p q N d) x x') s.leaks (insS p (callsS p (callK p N d)) at_ s regs x).1.leaks l l':=by
 by_cases hc:x.op=28∨x.op=29
 ·obtain ⟨c1,c2,c3,c4,c5⟩:=hI.call hc
  obtain ⟨c5,c6,c7⟩:=c5 at_ s regs hJ hr
  rw [insS_call hc] at h0 ⊢
  have hc':x'.op=28∨x'.op=29:=by omega
  rw [insS_call hc']
  by_cases hs:(stepS s).fin=0
  ·rw [if_pos hs] at h0 ⊢
   rw [stepS_lks,if_pos (show (lks (stepS s) l).fin=0 from hs),c2]
   have hargs:∀ v∈accV regs x.args x.args.length,fitI v:=accV_fit hr.fit hx.args _
   have key:fitI (callsS p (callK p N d) (stepS s) regs x).1∧∃ l',callsS q (callK q N d) (lks (stepS s) l) regs x'=((callsS p (callK p N d) (stepS s) regs x).1,lks (callsS p (callK p N d) (stepS s) regs x).2 l')∧Sim (gIns (gCall p q N d) x x') s.leaks (callsS p (callK p N d) (stepS s) regs x).2.leaks l l':=by
    have h0:(callsS p (callK p N d) (stepS s) regs x).2.fin=0:=h0
    rw [← stepS_leaks s]
    generalize stepS s=t at h0 ⊢
    unfold callsS at h0 ⊢
    unfold gIns
    rw [if_neg (show ¬ (x.op=26∨x.op=27) by omega)]
    rw [c1,c3,c4,c5,c6]
    by_cases h29:x.op=29
    ·rw [if_pos h29] at h0 ⊢
     rw [if_pos h29,if_neg (show ¬ x.op=28 by omega),if_pos h29]
     split at h0
     ·exact absurd h0 (stopS_fin _ (by decide))
     ·rename_i hq
      rw [if_neg hq]
      rw [hS.len,if_neg hq,hS.par]
      split at h0
      ·rename_i hp
       rw [if_pos hp,if_pos hp]
       obtain ⟨f1,l',e,hsim⟩:=hC (leakS t ⟨4,argS regs x.a,0⟩) (funcAt (argS regs x.a)) (accV regs x.args x.args.length) (⟨4,argS regs x.a,0⟩::l) hargs (by rw [accV_len];exact hp) h0
       exact ⟨f1,l',by rw [leakS_lks];exact e,Sim.one (l:=⟨4,argS regs x.a,0⟩) (by rw [if_pos rfl];exact hsim)⟩
      ·exact absurd h0 (stopS_fin _ (by decide))
    ·have h28:x.op=28:=by omega
     rw [if_neg h29] at h0 ⊢
     rw [if_neg h29,if_pos h28]
     have hp:paramsAt p x.ref=some (x.args.length:Int):=by
      have h2:=hR
      unfold rightS at h2
      simp only [Bool.and_eq_true,decide_eq_true_eq] at h2
      have h3:=h2.2
      unfold rightT at h3
      rw [if_neg (by omega),if_neg (by omega),if_neg (by omega),if_neg (by omega),if_neg (by omega),if_pos h28] at h3
      simpa using h3
     exact hC t x.ref _ l hargs (by rw [accV_len];exact hp) h0
   obtain ⟨k1,l',k2,k3⟩:=key
   refine ⟨hr.set _ k1,c7 _ _ k1,l',?_,k3⟩
   rw [k2]
  ·rw [if_neg hs] at h0
   exact absurd h0 hs
 ·obtain ⟨l',e,hsim,hj⟩:=hI.plain hc (callsS p (callK p N d)) (callsS q (callK q N d)) at_ s regs l hJ hr h0
  exact ⟨insS_regs hr hx hR hnf (fun h=>absurd h hc),hj,l',e,hsim _⟩
inductive InssSim (p q:ProgS) (r:Nat):(List Int→RunS→List Int→Prop)→List InsS→List InsS→(List Int→RunS→List Int→Prop)→Prop
 | nil {J}:InssSim p q r J [] [] J
 | cons {J J1 J2 x x' xs xs'} (h:InsSim p q r x x' J J1) (ht:InssSim p q r J1 xs xs' J2):InssSim p q r J (x::xs) (x'::xs') J2
theorem inss_sim {p q:ProgS} (hS:SameP p q) {N d r:Nat} {f:FuncS} (hC:CallSim p q N d) (hnf:p.funcs.length≤1000000) {J J':List Int→RunS→List Int→Prop} {xs xs':List InsS} (hI:InssSim p q r J xs xs' J'):(∀ x∈xs,x.ok∧rightS p f x=true)→∀ {at_:List Int} {s:RunS} {regs:List Int},J at_ s regs→Regs r regs→∀ (l:List LeakS),
 (runIns (insS p (callsS p (callK p N d)) at_) xs s regs).1.fin=0 →
 Regs r (runIns (insS p (callsS p (callK p N d)) at_) xs s regs).2∧J' at_ (runIns (insS p (callsS p (callK p N d)) at_) xs s regs).1 (runIns (insS p (callsS p (callK p N d)) at_) xs s regs).2 ∧
  ∃ l',runIns (insS q (callsS q (callK q N d)) at_) xs' (lks s l) regs=(lks (runIns (insS p (callsS p (callK p N d)) at_) xs s regs).1 l',(runIns (insS p (callsS p (callK p N d)) at_) xs s regs).2)∧Sim (gInss (gCall p q N d) xs xs') s.leaks (runIns (insS p (callsS p (callK p N d)) at_) xs s regs).1.leaks l l':=by
 induction hI with
 | nil=>intro _ at_ s regs hJ hr l _;exact ⟨hr,hJ,l,rfl,Sim.none _ _⟩
 | cons h ht ih =>
  rename_i J J1 J2 x x' xs xs'
  intro hx at_ s regs hJ hr l h0
  rw [runIns] at h0 ⊢
  by_cases h1:(insS p (callsS p (callK p N d)) at_ s regs x).1.fin=0
  ·rw [if_pos h1] at h0 ⊢
   obtain ⟨r1,j1,l1,e1,s1⟩:=ins_sim hS hC h (hx x (by simp)).1 (hx x (by simp)).2 hnf hJ hr l h1
   obtain ⟨r2,j2,l2,e2,s2⟩:=ih (fun y hy=>hx y (by simp [hy])) j1 r1 l1 h0
   refine ⟨r2,j2,l2,?_,s1.seq s2⟩
   rw [runIns,e1]
   dsimp only
   rw [if_pos (show (lks (insS p (callsS p (callK p N d)) at_ s regs x).1 l1).fin=0 from h1),e2]
  ·rw [if_neg h1] at h0
   exact absurd h0 h1
structure TermSim (r:Nat) (t t':TermS) (R:List Int→Prop) (E:Nat→List Int→Prop):Prop where
 ret:t.kind=3→t'.kind=3∧∀ regs,R regs→Regs r regs→argS regs t'.a=argS regs t.a
 jump:t.kind=1→t'.kind=1∧t'.goto=t.goto∧∀ regs,R regs→Regs r regs→E t.goto.toNat regs
 yes:t.kind=2→∀ regs,R regs→Regs r regs→holdsS t.op (argS regs t.a) (argS regs t.b)=true→E t.goto.toNat regs∧((t'.kind=1∧t'.goto=t.goto)∨(t'.kind=2∧t'.goto=t.goto∧holdsS t'.op (argS regs t'.a) (argS regs t'.b)=true))
 no:t.kind=2→∀ regs,R regs→Regs r regs→holdsS t.op (argS regs t.a) (argS regs t.b)=false→E t.els.toNat regs∧((t'.kind=1∧t'.goto=t.els)∨(t'.kind=2∧t'.els=t.els∧holdsS t'.op (argS regs t'.a) (argS regs t'.b)=false))
structure BlockSim (p q:ProgS) (r:Nat) (b b':BlockS) (R:List Int→Prop) (E:Nat→List Int→Prop):Prop where
 sim:∃ J0 J:List Int→RunS→List Int→Prop,(∀ at_ s regs,R regs→J0 at_ s regs)∧InssSim p q r J0 b.ins b'.ins J∧TermSim r b.term b'.term (fun regs=>∃ at_ s,J at_ s regs) E
structure FuncSim (p q:ProgS) (f f':FuncS):Prop where
 regs:f'.regs=f.regs
 slots:f'.slots=f.slots
 len:f'.blocks.length=f.blocks.length
 sim:∃ E:Nat→List Int→Prop,(∀ regs,Regs f.regs.toNat regs→E 0 regs)∧∀ (i:Nat) (b b':BlockS),f.blocks[i]?=some b→f'.blocks[i]?=some b'→(∃ regs,E i regs)→BlockSim p q f.regs.toNat b b' (E i) E
def tailK (ins:RunS→List Int→InsS→RunS × List Int) (f:FuncS) (k:Nat) (t:TermS) (r:RunS × List Int):Int × RunS × List Int :=
 if r.1.fin=0 then
  if (stepS r.1).fin=0 then
   if t.kind=3 then (argS r.2 t.a,stepS r.1,r.2)
   else if t.kind=1 then blocksS ins f k t.goto (stepS r.1) r.2
   else if holdsS t.op (argS r.2 t.a) (argS r.2 t.b)=true then blocksS ins f k t.goto (leakS (stepS r.1) (leakB true)) r.2
   else blocksS ins f k t.els (leakS (stepS r.1) (leakB false)) r.2
  else (0,stepS r.1,r.2)
 else (0,r.1,r.2)
theorem blocksS_tailK (ins:RunS→List Int→InsS→RunS × List Int) (f:FuncS) (k:Nat) (bi:Int) (s:RunS) (regs:List Int) (h0:s.fin=0) (b:BlockS) (hb:f.blocks[bi.toNat]?=some b):blocksS ins f (k+1) bi s regs=tailK ins f k b.term (runIns ins b.ins s regs):=by
 rw [blocksS,if_pos h0,hb];rfl
theorem blocks_sim {p q:ProgS} (hS:SameP p q) {N d r:Nat} {f f':FuncS} (hC:CallSim p q N d) (hnf:p.funcs.length≤1000000) (hlen:f'.blocks.length=f.blocks.length) {E:Nat→List Int→Prop} (hB:∀ (i:Nat) (b b':BlockS),f.blocks[i]?=some b→f'.blocks[i]?=some b'→(∃ regs,E i regs)→BlockSim p q r b b' (E i) E)
 (hok:∀ b∈f.blocks,(∀ x∈b.ins,x.ok∧rightS p f x=true)∧b.term.ok∧1≤b.term.kind∧b.term.kind≤3) (at_:List Int):∀ (k:Nat) (bi:Int) (s:RunS) (regs:List Int) (l:List LeakS),Regs r regs→E bi.toNat regs→(blocksS (insS p (callsS p (callK p N d)) at_) f k bi s regs).2.1.fin=0 →
 fitI (blocksS (insS p (callsS p (callK p N d)) at_) f k bi s regs).1∧∃ l',blocksS (insS q (callsS q (callK q N d)) at_) f' k bi (lks s l) regs=((blocksS (insS p (callsS p (callK p N d)) at_) f k bi s regs).1,lks (blocksS (insS p (callsS p (callK p N d)) at_) f k bi s regs).2.1 l',(blocksS (insS p (callsS p (callK p N d)) at_) f k bi s regs).2.2) ∧
  Sim (gBlocks (gCall p q N d) f.blocks f'.blocks k bi) s.leaks (blocksS (insS p (callsS p (callK p N d)) at_) f k bi s regs).2.1.leaks l l':=by
 intro k
 induction k with
 | zero=>intro bi s regs l _ _ _;exact ⟨fit0R,l,rfl,Sim.none _ _⟩
 | succ k ih =>
  intro bi s regs l hr hE h0
  by_cases hs:s.fin=0
  ·cases hb:f.blocks[bi.toNat]? with
   | none =>
    have hb':f'.blocks[bi.toNat]?=none:=by rw [List.getElem?_eq_none_iff] at hb ⊢;omega
    have e1:blocksS (insS p (callsS p (callK p N d)) at_) f (k+1) bi s regs=(0,s,regs):=by rw [blocksS,if_pos hs,hb]
    have e2:blocksS (insS q (callsS q (callK q N d)) at_) f' (k+1) bi (lks s l) regs=(0,lks s l,regs):=by rw [blocksS,if_pos (show (lks s l).fin=0 from hs),hb']
    rw [e1,e2,gBlocks,hb]
    exact ⟨fit0R,l,rfl,Sim.none _ _⟩
   | some b =>
    have hbl:=(List.getElem?_eq_some_iff.1 hb).1
    obtain ⟨b',hb'⟩:∃ b',f'.blocks[bi.toNat]?=some b':=⟨_,List.getElem?_eq_getElem (by omega)⟩
    obtain ⟨J0,J,hJ0,hI,hT⟩:=(hB _ b b' hb hb' ⟨regs,hE⟩).sim
    obtain ⟨o1,o2,o3⟩:=hok b (List.mem_of_getElem? hb)
    rw [blocksS_tailK _ _ _ _ _ _ hs b hb] at h0 ⊢
    rw [blocksS_tailK _ _ _ _ _ _ (show (lks s l).fin=0 from hs) b' hb',gBlocks,hb,hb']
    have hrun:=inss_sim hS hC hnf hI o1 (hJ0 at_ s regs hE) hr l
    dsimp only
    generalize runIns (insS p (callsS p (callK p N d)) at_) b.ins s regs=z at h0 hrun ⊢
    unfold tailK at h0 ⊢
    by_cases hz:z.1.fin=0
    ·obtain ⟨r1,j1,l1,e1,s1⟩:=hrun hz
     rw [e1]
     rw [if_pos hz] at h0 ⊢
     rw [if_pos (show (lks z.1 l1).fin=0 from hz),stepS_lks]
     by_cases ht:(stepS z.1).fin=0
     ·rw [if_pos ht] at h0 ⊢
      rw [if_pos (show (lks (stepS z.1) l1).fin=0 from ht)]
      have s1':=s1
      rw [← stepS_leaks z.1] at s1'
      have hR:∃ at_ s,J at_ s z.2:=⟨_,_,j1⟩
      by_cases k3:b.term.kind=3
      ·obtain ⟨t1,t2⟩:=hT.ret k3
       rw [if_pos k3] at h0 ⊢
       rw [if_pos t1,if_pos k3,t2 z.2 hR r1]
       exact ⟨fit_arg r1.fit o2.a,l1,rfl,s1'.seq (Sim.none _ _)⟩
      ·rw [if_neg k3] at h0 ⊢
       rw [if_neg k3]
       by_cases k1:b.term.kind=1
       ·obtain ⟨t1,t2,t3⟩:=hT.jump k1
        rw [if_pos k1] at h0 ⊢
        rw [if_neg (show ¬ b'.term.kind=3 by omega),if_pos t1,if_pos k1,t2]
        obtain ⟨i1,l2,i2,i3⟩:=ih b.term.goto (stepS z.1) z.2 l1 r1 (t3 z.2 hR r1) h0
        exact ⟨i1,l2,i2,s1'.seq i3⟩
       ·have k2:b.term.kind=2:=by omega
        rw [if_neg k1] at h0 ⊢
        rw [if_neg k1]
        by_cases hh:holdsS b.term.op (argS z.2 b.term.a) (argS z.2 b.term.b)=true
        ·obtain ⟨t1,t2⟩:=hT.yes k2 z.2 hR r1 hh
         rw [if_pos hh] at h0 ⊢
         rcases t2 with ⟨t2,t3⟩|⟨t2,t3,t4⟩
         ·rw [if_neg (show ¬ b'.term.kind=3 by omega),if_pos t2,t3]
          obtain ⟨i1,l2,i2,i3⟩:=ih b.term.goto (leakS (stepS z.1) (leakB true)) z.2 l1 r1 t1 h0
          refine ⟨i1,l2,i2,s1'.seq (Sim.one (l:=leakB true) ?_)⟩
          rw [if_pos (show (leakB true).a=1 from rfl),if_neg (by rw [decide_eq_true_eq];omega)]
          exact i3
         ·rw [if_neg (show ¬ b'.term.kind=3 by omega),if_neg (show ¬ b'.term.kind=1 by omega),if_pos t4,t3]
          obtain ⟨i1,l2,i2,i3⟩:=ih b.term.goto (leakS (stepS z.1) (leakB true)) z.2 (leakB true::l1) r1 t1 h0
          refine ⟨i1,l2,i2,s1'.seq (Sim.one (l:=leakB true) ?_)⟩
          rw [if_pos (show (leakB true).a=1 from rfl),if_pos (by rw [decide_eq_true_eq];omega)]
          exact i3
        ·have hh':holdsS b.term.op (argS z.2 b.term.a) (argS z.2 b.term.b)=false:=by simpa using hh
         obtain ⟨t1,t2⟩:=hT.no k2 z.2 hR r1 hh'
         rw [if_neg hh] at h0 ⊢
         rcases t2 with ⟨t2,t3⟩|⟨t2,t3,t4⟩
         ·rw [if_neg (show ¬ b'.term.kind=3 by omega),if_pos t2,t3]
          obtain ⟨i1,l2,i2,i3⟩:=ih b.term.els (leakS (stepS z.1) (leakB false)) z.2 l1 r1 t1 h0
          refine ⟨i1,l2,i2,s1'.seq (Sim.one (l:=leakB false) ?_)⟩
          rw [if_neg (show ¬ (leakB false).a=1 by decide),if_neg (by rw [decide_eq_true_eq];omega)]
          exact i3
         ·rw [if_neg (show ¬ b'.term.kind=3 by omega),if_neg (show ¬ b'.term.kind=1 by omega),if_neg (by rw [t4];decide),t3]
          obtain ⟨i1,l2,i2,i3⟩:=ih b.term.els (leakS (stepS z.1) (leakB false)) z.2 (leakB false::l1) r1 t1 h0
          refine ⟨i1,l2,i2,s1'.seq (Sim.one (l:=leakB false) ?_)⟩
          rw [if_neg (show ¬ (leakB false).a=1 by decide),if_pos (by rw [decide_eq_true_eq];omega)]
          exact i3
     ·rw [if_neg ht] at h0
      exact absurd h0 ht
    ·rw [if_neg hz] at h0
     exact absurd h0 hz
  ·have e1:blocksS (insS p (callsS p (callK p N d)) at_) f (k+1) bi s regs=(0,s,regs):=by rw [blocksS,if_neg hs]
   rw [e1] at h0
   exact absurd h0 hs
structure PassSim (p q:ProgS):Prop extends SameP p q where
 nf:p.funcs.length≤1000000
 ok:p.ok
 right:rightP p=true
 sim:∀ (i:Nat) (f f':FuncS),p.funcs[i]?=some f→q.funcs[i]?=some f'→FuncSim p q f f'
theorem PassSim.func {p q:ProgS} (h:PassSim p q) {f:FuncS} (hf:f∈p.funcs):funcOK p f=true:=by
 have:=h.right
 unfold rightP at this
 simp only [Bool.and_eq_true] at this
 exact List.all_eq_true.1 this.2 f hf
theorem call_sim {p q:ProgS} (h:PassSim p q) (N:Nat):∀ d,CallSim p q N d:=by
 intro d
 induction d with
 | zero=>intro s n args l _ _ _;exact ⟨fit0R,l,rfl,Sim.none _ _⟩
 | succ d ih =>
  intro s n args l ha hp h0
  rw [callK] at h0 ⊢
  by_cases h1:100 < s.deep+1
  ·rw [if_pos h1] at h0
   exact absurd h0 (stopS_fin _ (by decide))
  ·rw [if_neg h1] at h0 ⊢
   rw [callK,if_neg (show ¬ 100 < (lks s l).deep+1 from h1),gCall]
   cases hf:p.funcs[n.toNat]? with
   | none =>
    have hf':q.funcs[n.toNat]?=none:=by rw [List.getElem?_eq_none_iff] at hf ⊢;have:=h.len;omega
    rw [hf']
    exact ⟨fit0R,l,rfl,Sim.none _ _⟩
   | some f =>
    have hl:=(List.getElem?_eq_some_iff.1 hf).1
    obtain ⟨f',hf'⟩:∃ f',q.funcs[n.toNat]?=some f':=⟨_,List.getElem?_eq_getElem (by have:=h.len;omega)⟩
    have hfm:=List.mem_of_getElem? hf
    have hfo:=h.func hfm
    have hfk:=h.ok.funcs f hfm
    unfold funcOK at hfo
    simp only [Bool.and_eq_true,decide_eq_true_eq] at hfo
    have hpar:f.params=(args.length:Int):=by
     unfold paramsAt at hp
     split at hp
     ·rw [hf] at hp;simpa using hp
     ·cases hp
    obtain ⟨E,hE0,hB⟩:=(h.sim _ f f' hf hf').sim
    have hfs:=h.sim _ f f' hf hf'
    rw [hf] at h0
    rw [hf']
    dsimp only at h0 ⊢
    have hregs:regsS f' args=regsS f args:=by unfold regsS;rw [hfs.regs]
    have hr:Regs f.regs.toNat (regsS f args):=by
     refine ⟨by unfold regsS;simp;omega,fun v hv=>?_⟩
     unfold regsS at hv
     rcases List.mem_append.1 hv with e|e
     ·exact ha v (by simpa using e)
     ·rw [(List.mem_replicate.1 e).2];exact fit0R
    have hsp:spDone (lks s l) f'=lks (spDone s f) l:=by unfold spDone;rw [hfs.slots];rfl
    have hok:∀ b∈f.blocks,(∀ x∈b.ins,x.ok∧rightS p f x=true)∧b.term.ok∧1≤b.term.kind∧b.term.kind≤3:=by
     intro b hb
     have hbo:=List.all_eq_true.1 hfo.2 b hb
     have hbk:=hfk.blocks b hb
     unfold blockOK at hbo
     simp only [Bool.and_eq_true] at hbo
     have he:=hbo.2
     unfold endsS at he
     simp only [Bool.and_eq_true,decide_eq_true_eq] at he
     exact ⟨fun x hx=>⟨hbk.ins x hx,List.all_eq_true.1 hbo.1 x hx⟩,hbk.term,he.1.1.1.1,he.1.1.1.2⟩
    obtain ⟨i1,l',i2,i3⟩:=blocks_sim h.toSameP ih h.nf hfs.len hB hok (rowAt s.sp f.slots f.slots.length) N 0 (spDone s f) (regsS f args) l hr (hE0 _ hr) h0
    refine ⟨i1,l',?_,i3⟩
    rw [hfs.slots,hregs,hsp]
    rw [show (lks s l).sp=s.sp from rfl,i2]
    rfl
theorem run_sim {p q:ProgS} (h:PassSim p q) (N:Nat) (pub sec:List Int) (fuel:Int) (h0:(runS p N pub sec fuel).fin=0) :
 ∃ l',runS q N pub sec fuel=lks (runS p N pub sec fuel) l'∧gCall p q N 101 p.main (runS p N pub sec fuel).leaks.reverse=some (l'.reverse,[]):=by
 have hm:paramsAt p p.main=some 0:=by
  have:=h.right
  unfold rightP at this
  simp only [Bool.and_eq_true,decide_eq_true_eq] at this
  exact this.1.1.1.1
 have hd:dataS q pub sec=dataS p pub sec:=by unfold dataS;rw [h.glob,h.data]
 unfold runS at h0 ⊢
 rw [hd,h.main]
 generalize hst:startS fuel (dataS p pub sec) (List.replicate 416000 0)=st at *
 have hl:st.leaks=[]:=by rw [← hst];rfl
 have h1:(callK p N 101 st p.main []).2.fin=0:=by
  unfold endS at h0
  split at h0
  ·assumption
  ·exact h0
 obtain ⟨_,l',e,n,qn,g1,g2,g3⟩:=call_sim h N 101 st p.main [] [] (fun v hv=>by cases hv) hm h1
 have hself:lks st []=st:=by rw [← hl];rfl
 rw [hself] at e
 rw [e]
 unfold endS
 rw [if_pos h1,if_pos (show (lks (callK p N 101 st p.main []).2 l').fin=0 from h1)]
 refine ⟨l',rfl,?_⟩
 show gCall p q N 101 p.main (callK p N 101 st p.main []).2.leaks.reverse=_
 rw [g1,g2,hl]
 have:=g3 []
 simpa using this
theorem run_two {p q:ProgS} (h:PassSim p q) (N:Nat) (pub sec pub' sec':List Int) (fuel:Int) (h0:(runS p N pub sec fuel).fin=0) (h1:(runS p N pub' sec' fuel).fin=0) (hl:(runS p N pub sec fuel).leaks=(runS p N pub' sec' fuel).leaks):(runS q N pub sec fuel).leaks=(runS q N pub' sec' fuel).leaks:=by
 obtain ⟨l1,e1,g1⟩:=run_sim h N pub sec fuel h0
 obtain ⟨l2,e2,g2⟩:=run_sim h N pub' sec' fuel h1
 rw [hl,g2] at g1
 have:l1.reverse=l2.reverse:=by injection g1 with g1;injection g1 with g1;exact g1.symm
 rw [e1,e2]
 exact List.reverse_inj.1 this
def HoldF (f:FactS) (v:Int):Prop:=(f.kind=1∧v=f.n)∨f.kind=2
structure FactsOK (l:List FactS) (regs:List Int):Prop where
 len:l.length=regs.length
 at_:∀ (i:Nat) (f:FactS) (v:Int),l[i]?=some f→regs[i]?=some v→HoldF f v
theorem HoldF.any (v:Int):HoldF anyF v:=.inr rfl
theorem HoldF.num (n:Int):HoldF (numF n) n:=.inl ⟨rfl,rfl⟩
theorem HoldF.le {a b:FactS} {v:Int} (h:HoldF a v) (hl:leF a b):HoldF b v:=by
 rcases hl with e|e|e
 ·rcases h with ⟨h,_⟩|h<;>omega
 ·exact .inr e
 ·rw [← e];exact h
theorem FactsOK.le {l m:List FactS} {regs:List Int} (h:FactsOK l regs) (hl:LeL l m):FactsOK m regs:=by
 refine ⟨by rw [← hl.len,h.len],fun i f v hf hv=>?_⟩
 have hi:=(List.getElem?_eq_some_iff.1 hf).1
 obtain ⟨a,ha⟩:∃ a,l[i]?=some a:=⟨_,List.getElem?_eq_getElem (by rw [hl.len];exact hi)⟩
 exact (h.at_ i a v ha hv).le (hl.le i a f ha hf)
theorem FactsOK.set {l:List FactS} {regs:List Int} (h:FactsOK l regs) {f:FactS} {v:Int} (hf:HoldF f v) (d:Nat):FactsOK (l.set d f) (regs.set d v):=by
 refine ⟨by simp [h.len],fun i g w hg hw=>?_⟩
 rw [List.getElem?_set] at hg hw
 by_cases e:d=i
 ·rw [if_pos e] at hg hw
  split at hg
  ·split at hw
   ·injection hg with hg
    injection hw with hw
    rw [← hg,← hw];exact hf
   ·cases hw
  ·cases hg
 ·rw [if_neg e] at hg hw
  exact h.at_ i g w hg hw
theorem FactsOK.of {l:List FactS} {regs:List Int} (h:FactsOK l regs) (a:ArgS):HoldF (ofF l a) (argS regs a):=by
 unfold ofF argS
 by_cases hr:a.reg < 0
 ·rw [if_pos hr,if_pos hr];exact .num _
 ·rw [if_neg hr,if_neg hr]
  cases hl:l[a.reg.toNat]? with
  | none=>exact .any _
  | some f =>
   have hi:=(List.getElem?_eq_some_iff.1 hl).1
   obtain ⟨v,hv⟩:∃ v,regs[a.reg.toNat]?=some v:=⟨_,List.getElem?_eq_getElem (by rw [← h.len];exact hi)⟩
   rw [List.getD_eq_getElem?_getD,hv]
   exact h.at_ _ f v hl hv
theorem argF_ok {l:List FactS} {regs:List Int} (h:FactsOK l regs) (a:ArgS):argS regs (argF l a)=argS regs a:=by
 unfold argF
 split
 ·rename_i hk
  have e:argS regs ⟨-1,(ofF l a).n⟩=(ofF l a).n:=by unfold argS;rw [if_pos (show (-1:Int) < 0 by decide)]
  rw [e]
  rcases h.of a with ⟨_,h2⟩|h2
  ·exact h2.symm
  ·omega
 ·rfl
def valS (p:ProgS) (at_:List Int) (regs:List Int) (x:InsS):Int :=
 if x.op=1∨x.op=2 then argS regs x.a
 else if twoS x.op=true then (reckonS x.op (argS regs x.a) (argS regs x.b)).1
 else if x.op=22 then widenS (argS regs x.a) x.size x.signed
 else if x.op=23 then i64 (i64 (65536+placeOf p x.ref)+x.off)
 else if x.op=24 then i64 (atOf at_ x.ref+x.off)
 else 4194304+16 * x.ref
theorem insS_pure {p:ProgS} {cl:RunS→List Int→InsS→Int × RunS} {at_:List Int} {s:RunS} {regs:List Int} {x:InsS} (hp:pureS x.op=true) (h0:(insS p cl at_ s regs x).1.fin=0) :
 (stepS s).fin=0∧insS p cl at_ s regs x=(stepS s,setReg regs x.dst (valS p at_ regs x))∧(twoS x.op=true→(reckonS x.op (argS regs x.a) (argS regs x.b)).2=true):=by
 have hp:=pure_iff.1 hp
 unfold insS at h0 ⊢
 unfold valS
 by_cases hs:(stepS s).fin=0
 ·rw [if_pos hs] at h0 ⊢
  refine ⟨hs,?_⟩
  by_cases o1:x.op=1∨x.op=2
  ·rw [if_pos o1,if_pos o1]
   exact ⟨rfl,fun h=>by have:=two_iff.1 h;omega⟩
  rw [if_neg o1] at h0 ⊢
  rw [if_neg o1]
  by_cases o2:twoS x.op=true
  ·rw [if_pos o2] at h0 ⊢
   rw [if_pos o2]
   by_cases q:(reckonS x.op (argS regs x.a) (argS regs x.b)).2=true
   ·rw [if_pos q];exact ⟨rfl,fun _=>q⟩
   ·rw [if_neg q] at h0
    exact absurd h0 (stopS_fin _ (by decide))
  rw [if_neg o2] at h0 ⊢
  rw [if_neg o2]
  refine ⟨?_,fun h=>absurd h o2⟩
  have ht:¬ (3≤x.op∧x.op≤21):=fun h=>o2 (two_iff.2 h)
  by_cases o3:x.op=22
  ·rw [if_pos o3,if_pos o3]
  rw [if_neg o3,if_neg o3]
  by_cases o4:x.op=23
  ·rw [if_pos o4,if_pos o4]
  rw [if_neg o4,if_neg o4]
  by_cases o5:x.op=24
  ·rw [if_pos o5,if_pos o5]
  rw [if_neg o5,if_neg o5,if_pos (show x.op=25 by omega)]
 ·rw [if_neg hs] at h0
  exact absurd h0 hs
theorem HoldF.two {a b:FactS} {op v w:Int} (ha:HoldF a v) (hb:HoldF b w) (hk:(reckonS op v w).2=true):HoldF (twoF op a b) (reckonS op v w).1:=by
 unfold twoF
 split
 ·rename_i h
  rcases ha with ⟨_,e1⟩|e1
  ·rcases hb with ⟨_,e2⟩|e2
   ·rw [e1,e2] at hk ⊢
    rw [if_pos hk];exact .num _
   ·omega
  ·omega
 ·rename_i h1
  split
  ·rename_i h2
   rcases ha with ⟨e1,_⟩|e1
   ·rcases hb with ⟨e2,_⟩|e2
    ·exact absurd ⟨e1,e2⟩ h1
    ·omega
   ·omega
  ·exact .any _
theorem resultF_ok {p:ProgS} {l:List FactS} {at_ regs:List Int} {x:InsS} (h:FactsOK l regs) (hp:pureS x.op=true) (hk:twoS x.op=true→(reckonS x.op (argS regs x.a) (argS regs x.b)).2=true):HoldF (resultF l x) (valS p at_ regs x):=by
 have hp:=pure_iff.1 hp
 unfold resultF valS
 by_cases o1:x.op=1∨x.op=2
 ·rw [if_pos o1,if_pos o1];exact h.of _
 rw [if_neg o1,if_neg o1]
 by_cases o3:x.op=22
 ·have ht:¬ twoS x.op=true:=fun h=>by have:=two_iff.1 h;omega
  rw [if_neg ht,if_neg ht,if_pos o3]
  rcases h.of x.a with ⟨h1,h2⟩|h1
  ·rw [if_pos ⟨o3,h1⟩,h2];exact .num _
  ·rw [if_neg (by omega),if_neg (by omega)];exact .any _
 ·rw [if_neg (by omega),if_neg (by omega)]
  by_cases o2:twoS x.op=true
  ·rw [if_pos o2,if_pos o2]
   exact HoldF.two (h.of _) (h.of _) (hk o2)
  ·rw [if_neg o2];exact .any _
theorem resultF_any {l:List FactS} {x:InsS} (hp:26≤x.op):resultF l x=anyF:=by
 unfold resultF
 rw [if_neg (by omega),if_neg (by omega),if_neg (by omega),if_neg (fun h=>by have:=two_iff.1 h;omega)]
theorem stepF_ok {l:List FactS} {regs:List Int} {x:InsS} {v:Int} (h:FactsOK l regs) (hv:HoldF (resultF l x) v):FactsOK (stepF l x) (setReg regs x.dst v):=by
 unfold stepF setReg
 by_cases hd:0≤x.dst
 ·rw [if_pos hd,if_pos hd];exact h.set hv _
 ·rw [if_neg hd,if_neg hd];exact h
theorem stepF_keep {l:List FactS} {regs:List Int} {x:InsS} (h:FactsOK l regs) (hx:x.dst=-1):FactsOK (stepF l x) regs:=by
 unfold stepF
 rw [if_neg (by omega)];exact h
theorem ins_same {p q:ProgS} (hg:q.globals=p.globals) {cl cl':RunS→List Int→InsS→Int × RunS} {at_:List Int} {s:RunS} {regs:List Int} {x x':InsS} (hc:¬ (x.op=28∨x.op=29)) (hop:1≤x.op∧x.op≤30) (l:List LeakS)
 (e1:x'.op=x.op) (e2:x'.dst=x.dst) (e3:x'.size=x.size) (e4:x'.signed=x.signed) (e5:x'.ref=x.ref) (e6:x'.off=x.off) (ea:argS regs x'.a=argS regs x.a) (eb:argS regs x'.b=argS regs x.b) (h0:(insS p cl at_ s regs x).1.fin=0) :
 ∃ l',insS q cl' at_ (lks s l) regs x'=(lks (insS p cl at_ s regs x).1 l',(insS p cl at_ s regs x).2)∧∀ gc,Sim (gIns gc x x') s.leaks (insS p cl at_ s regs x).1.leaks l l':=by
 have hpl:placeOf q x.ref=placeOf p x.ref:=by unfold placeOf;rw [hg]
 have key:∀ gc,¬ (x.op=26∨x.op=27)→Sim (gIns gc x x') s.leaks (stepS s).leaks l l:=by
  intro gc hn
  unfold gIns
  rw [if_neg hn,if_neg (by omega),if_neg (by omega),stepS_leaks]
  exact Sim.none _ _
 unfold insS at h0 ⊢
 by_cases hs:(stepS s).fin=0
 ·rw [if_pos hs] at h0 ⊢
  rw [stepS_lks,if_pos (show (lks (stepS s) l).fin=0 from hs),e1,e2,e3,e4,e5,e6,ea,eb,hpl]
  by_cases o1:x.op=1∨x.op=2
  ·rw [if_pos o1,if_pos o1]
   exact ⟨l,rfl,fun gc=>key gc (by omega)⟩
  rw [if_neg o1] at h0 ⊢
  rw [if_neg o1]
  by_cases o2:twoS x.op=true
  ·have h2:=two_iff.1 o2
   rw [if_pos o2] at h0 ⊢
   rw [if_pos o2]
   by_cases q:(reckonS x.op (argS regs x.a) (argS regs x.b)).2=true
   ·rw [if_pos q,if_pos q]
    exact ⟨l,rfl,fun gc=>key gc (by omega)⟩
   ·rw [if_neg q] at h0
    exact absurd h0 (stopS_fin _ (by decide))
  rw [if_neg o2] at h0 ⊢
  rw [if_neg o2]
  have ht:¬ (3≤x.op∧x.op≤21):=fun h=>o2 (two_iff.2 h)
  by_cases o3:x.op=22
  ·rw [if_pos o3,if_pos o3]
   exact ⟨l,rfl,fun gc=>key gc (by omega)⟩
  rw [if_neg o3] at h0 ⊢
  rw [if_neg o3]
  by_cases o4:x.op=23
  ·rw [if_pos o4,if_pos o4]
   exact ⟨l,rfl,fun gc=>key gc (by omega)⟩
  rw [if_neg o4] at h0 ⊢
  rw [if_neg o4]
  by_cases o5:x.op=24
  ·rw [if_pos o5,if_pos o5]
   exact ⟨l,rfl,fun gc=>key gc (by omega)⟩
  rw [if_neg o5] at h0 ⊢
  rw [if_neg o5]
  by_cases o6:x.op=25
  ·rw [if_pos o6,if_pos o6]
   exact ⟨l,rfl,fun gc=>key gc (by omega)⟩
  rw [if_neg o6] at h0 ⊢
  rw [if_neg o6]
  have one:∀ gc a',x.op=26∨x.op=27→∀ k:LeakS,a'=k::(stepS s).leaks→Sim (gIns gc x x') s.leaks a' l (k::l):=by
   intro gc a' ho k ha
   unfold gIns
   rw [if_pos ho,ha,stepS_leaks]
   refine Sim.one (l:=k) ?_
   rw [if_pos (by rw [e1];exact decide_eq_true rfl)]
   exact Sim.none _ _
  by_cases o7:x.op=26
  ·rw [if_pos o7,if_pos o7,loadS_lks]
   exact ⟨_,rfl,fun gc=>one gc _ (.inl o7) _ (loadS_leaks _ _ _ _)⟩
  rw [if_neg o7] at h0 ⊢
  rw [if_neg o7]
  by_cases o8:x.op=27
  ·rw [if_pos o8,if_pos o8,storeS_lks]
   exact ⟨_,rfl,fun gc=>one gc _ (.inr o8) _ (storeS_leaks _ _ _ _)⟩
  rw [if_neg o8] at h0 ⊢
  rw [if_neg o8]
  have o9:x.op=30:=by omega
  rw [if_pos o9] at h0 ⊢
  rw [if_pos o9]
  by_cases q:(stepS s).out.length=10000
  ·rw [if_pos q] at h0
   exact absurd h0 (stopS_fin _ (by decide))
  ·rw [if_neg q,if_neg (show ¬ (lks (stepS s) l).out.length=10000 from q)]
   exact ⟨l,rfl,fun gc=>key gc (by omega)⟩
 ·rw [if_neg hs] at h0
  exact absurd h0 hs
theorem pure_sim {p q:ProgS} {cl cl':RunS→List Int→InsS→Int × RunS} {at_:List Int} {s:RunS} {regs:List Int} {x x':InsS} (hp:pureS x.op=true) (h0:(insS p cl at_ s regs x).1.fin=0) (l:List LeakS) (h1:x'.op=1∨x'.op=2) (hd:x'.dst=x.dst) (hv:argS regs x'.a=valS p at_ regs x) :
 ∃ l',insS q cl' at_ (lks s l) regs x'=(lks (insS p cl at_ s regs x).1 l',(insS p cl at_ s regs x).2)∧∀ gc,Sim (gIns gc x x') s.leaks (insS p cl at_ s regs x).1.leaks l l':=by
 obtain ⟨h2,h3,_⟩:=insS_pure hp h0
 have hp:=pure_iff.1 hp
 rw [h3]
 refine ⟨l,?_,fun gc=>?_⟩
 ·unfold insS
  rw [stepS_lks,if_pos (show (lks (stepS s) l).fin=0 from h2),if_pos h1,hd,hv]
 ·unfold gIns
  rw [if_neg (by omega),if_neg (by omega),if_neg (by omega)]
  show Sim gNone s.leaks (stepS s).leaks l l
  rw [stepS_leaks]
  exact Sim.none _ _
theorem i64_fitK {a:Int} (h:fitI a):i64 a=a:=by
 unfold fitI at h
 simp only [i64,IntKind.wrap,IntKind.signed,IntKind.bits]
 simp;omega
theorem i64_ofInt {a:Int} (h:fitI a):i64 ((BitVec.ofInt 64 a).toNat:Int)=a:=by
 unfold fitI at h
 simp only [i64,IntKind.wrap,IntKind.signed,IntKind.bits,BitVec.toNat_ofInt]
 simp;omega
theorem i64_mod {a:Int} (h:fitI a):i64 (max (a % 18446744073709551616) 0)=a:=by
 unfold fitI at h
 simp only [i64,IntKind.wrap,IntKind.signed,IntKind.bits]
 simp;omega
theorem sh63_zero:sh63 0=0:=by decide
theorem reckon_zero {op a:Int} (ha:fitI a) (h:op=3∨op=4∨op=11∨op=12∨op=13∨op=14∨op=15):reckonS op a 0=(a,true):=by
 rcases h with e|e|e|e|e|e|e<;>subst e<;>simp only [reckonS]
 ·simp [i64_fitK ha]
 ·simp [i64_fitK ha]
 ·simp [or64,i64_mod ha]
 ·simp [xor64,i64_mod ha]
 ·simp [sh63_zero,i64_fitK ha]
 ·simp [sh63_zero]
 ·simp [sh63_zero]
  have:=i64_ofInt ha
  unfold u64
  unfold fitI at ha
  simp only [i64,IntKind.wrap,IntKind.signed,IntKind.bits]
  simp;omega
theorem reckon_null {op a:Int} (h:op=5∨op=10):reckonS op a 0=(0,true):=by
 rcases h with e|e<;>subst e<;>simp [reckonS,and64,i64,IntKind.wrap,IntKind.signed,IntKind.bits]
theorem reckon_unit {op a:Int} (ha:fitI a) (h:op=5∨op=6∨op=7):reckonS op a 1=(a,true):=by
 have hu:i64 (u64 ((u64 a).tdiv (u64 1)))=a:=by
  have e1:u64 1=1:=by decide
  rw [e1,Int.tdiv_one]
  unfold fitI at ha
  simp only [i64,u64,IntKind.wrap,IntKind.signed,IntKind.bits]
  simp;omega
 rcases h with e|e|e<;>subst e
 ·simp [reckonS,i64_fitK ha]
 ·simp [reckonS,quotS,i64_fitK ha]
 ·simp [reckonS,quotS,hu]
theorem valS_two {p:ProgS} {at_ regs:List Int} {x:InsS} (h:twoS x.op=true):valS p at_ regs x=(reckonS x.op (argS regs x.a) (argS regs x.b)).1:=by
 have:=two_iff.1 h
 unfold valS
 rw [if_neg (by omega),if_pos h]
theorem simple_sim {p q:ProgS} (hg:q.globals=p.globals) {cl cl':RunS→List Int→InsS→Int × RunS} {at_:List Int} {s:RunS} {regs:List Int} {x x':InsS} (hr:∀ v∈regs,fitI v) (hx:x.ok) (hc:¬ (x.op=28∨x.op=29)) (hop:1≤x.op∧x.op≤30) (l:List LeakS)
 (e1:x'.op=x.op) (e2:x'.dst=x.dst) (e3:x'.size=x.size) (e4:x'.signed=x.signed) (e5:x'.ref=x.ref) (e6:x'.off=x.off) (ea:argS regs x'.a=argS regs x.a) (eb:argS regs x'.b=argS regs x.b) (h0:(insS p cl at_ s regs x).1.fin=0) :
 ∃ l',insS q cl' at_ (lks s l) regs (simpleF x')=(lks (insS p cl at_ s regs x).1 l',(insS p cl at_ s regs x).2)∧∀ gc,Sim (gIns gc x (simpleF x')) s.leaks (insS p cl at_ s regs x).1.leaks l l':=by
 have ha:fitI (argS regs x.a):=fit_arg hr hx.a
 have same:=ins_same (q:=q) hg (cl:=cl) (cl':=cl') (at_:=at_) (s:=s) (regs:=regs) (x:=x) (x':=x') hc hop l e1 e2 e3 e4 e5 e6 ea eb h0
 unfold simpleF
 by_cases h1:3≤x'.op∧x'.op≤15∧x'.b.reg < 0
 ·rw [if_pos h1]
  obtain ⟨g1,g2,g3⟩:=h1
  have h2:twoS x.op=true:=two_iff.2 (by omega)
  have hp:pureS x.op=true:=pure_iff.2 (by omega)
  have hb:argS regs x.b=x'.b.num:=by rw [← eb];unfold argS;rw [if_pos g3]
  have hv:=valS_two (p:=p) (at_:=at_) (regs:=regs) h2
  rw [hb] at hv
  by_cases q1:x'.b.num=0∧(x'.op=3∨x'.op=4∨x'.op=11∨x'.op=12∨13≤x'.op)
  ·rw [if_pos q1]
   rw [q1.1,reckon_zero ha (by omega)] at hv
   exact pure_sim hp h0 l (.inr rfl) e2 (by rw [hv];exact ea)
  ·rw [if_neg q1]
   by_cases q2:x'.b.num=0∧(x'.op=5∨x'.op=10)
   ·rw [if_pos q2]
    rw [q2.1,reckon_null (by omega)] at hv
    exact pure_sim hp h0 l (.inl rfl) e2 (by rw [hv];rfl)
   ·rw [if_neg q2]
    by_cases q3:x'.b.num=1∧(x'.op=5∨x'.op=6∨x'.op=7)
    ·rw [if_pos q3]
     rw [q3.1,reckon_unit ha (by omega)] at hv
     exact pure_sim hp h0 l (.inr rfl) e2 (by rw [hv];exact ea)
    ·rw [if_neg q3];exact same
 ·rw [if_neg h1];exact same
theorem accV_map {l:List FactS} {regs:List Int} (h:FactsOK l regs) (al:List ArgS):∀ n,accV regs (al.map (argF l)) n=accV regs al n
 | 0=>rfl
 | n+1=>by
  rw [accV,accV,accV_map h al n]
  congr 1
  rw [List.getD_eq_getElem?_getD,List.getD_eq_getElem?_getD,List.getElem?_map]
  cases al[n]? with
  | none=>rfl
  | some a=>exact argF_ok h a
theorem insF_sim {p q:ProgS} (hg:q.globals=p.globals) {f:FuncS} {r:Nat} {l:List FactS} {x:InsS} (hx:x.ok) (hR:rightS p f x=true):InsSim p q r x (insF l x) (fun _ _ regs=>FactsOK l regs) (fun _ _ regs=>FactsOK (stepF l x) regs):=by
 have h2:=hR
 unfold rightS at h2
 simp only [Bool.and_eq_true,decide_eq_true_eq] at h2
 have hop:1≤x.op∧x.op≤30:=⟨h2.1.1.1.1.1,h2.1.1.1.1.2⟩
 have hrT:=h2.2
 refine ⟨fun hc=>?_,fun hc cl cl' at_ s regs lk hJ hr h0=>?_⟩
 ·have hk:knownF l x={ x with a:=argF l x.a,b:=argF l x.b,args:=x.args.map (argF l) }:=by
   unfold knownF
   rw [if_neg (fun h=>by have:=pure_iff.1 h.2;omega)]
  have hi:insF l x={ x with a:=argF l x.a,b:=argF l x.b,args:=x.args.map (argF l) }:=by
   unfold insF
   rw [hk]
   unfold simpleF
   rw [if_neg (by show ¬ (3≤x.op∧x.op≤15∧_);omega)]
  rw [hi]
  refine ⟨rfl,rfl,rfl,by simp,fun at_ s regs hJ hr=>⟨argF_ok hJ _,accV_map hJ _ _,fun s1 v hv=>stepF_ok hJ ?_⟩⟩
  rw [resultF_any (by omega)];exact .any _
 ·have main:∃ l',insS q cl' at_ (lks s lk) regs (insF l x)=(lks (insS p cl at_ s regs x).1 l',(insS p cl at_ s regs x).2)∧∀ gc,Sim (gIns gc x (insF l x)) s.leaks (insS p cl at_ s regs x).1.leaks lk l':=by
   unfold insF knownF
   by_cases hk:(resF l x).kind=1∧pureS x.op=true
   ·rw [if_pos hk]
    have hs:simpleF (plainI 1 x.dst ⟨-1,(resF l x).n⟩)=plainI 1 x.dst ⟨-1,(resF l x).n⟩:=by
     unfold simpleF plainI
     rw [if_neg (by simp)]
    rw [hs]
    refine pure_sim hk.2 h0 lk (.inl rfl) rfl ?_
    obtain ⟨_,_,g3⟩:=insS_pure hk.2 h0
    have hv:=resultF_ok (p:=p) (at_:=at_) hJ hk.2 g3
    have hd:0≤x.dst:=by
     have:=hk.1
     unfold resF at this
     split at this
     ·assumption
     ·exact absurd this (by decide)
    have hk1:=hk.1
    unfold resF at hk1 ⊢
    rw [if_pos hd] at hk1 ⊢
    rcases hv with ⟨_,e⟩|e
    ·rw [e];rfl
    ·omega
   ·rw [if_neg hk]
    exact simple_sim (x':={ x with a:=argF l x.a,b:=argF l x.b,args:=x.args.map (argF l) }) hg hr.fit hx hc hop lk rfl rfl rfl rfl rfl rfl (argF_ok hJ _) (argF_ok hJ _) h0
  obtain ⟨l',m1,m2⟩:=main
  refine ⟨l',m1,m2,?_⟩
  by_cases hp:pureS x.op=true
  ·obtain ⟨_,g2,g3⟩:=insS_pure hp h0
   rw [g2]
   exact stepF_ok hJ (resultF_ok hJ hp g3)
  ·have h26:26≤x.op:=by
    rcases Int.lt_or_le x.op 26 with h|h
    ·exact absurd (pure_iff.2 (by omega)) hp
    ·exact h
   have hany:∀ v,FactsOK (stepF l x) (setReg regs x.dst v):=fun v=>stepF_ok hJ (by rw [resultF_any h26];exact .any _)
   have hno:x.op=27∨x.op=30→FactsOK (stepF l x) regs:=by
    intro h
    refine stepF_keep hJ ?_
    unfold rightT at hrT
    rcases h with h|h
    ·rw [if_neg (by omega),if_pos h] at hrT
     simp only [Bool.and_eq_true,beq_iff_eq] at hrT
     exact hrT.1
    ·rw [if_neg (by omega),if_neg (by omega),if_neg (by omega),if_neg (by omega),if_neg (by omega),if_neg (by omega),if_neg (by omega),if_pos h] at hrT
     simpa using hrT
   refine insS_elim (Q:=fun z=>z.1.fin=0→FactsOK (stepF l x) z.2) (fun h h'=>absurd h' h) (fun _ h _=>by omega) (fun _ h _=>by have:=two_iff.1 h;omega) (fun _ h _=>by omega) (fun _ h _=>by omega) (fun _ h _=>by omega) (fun _ h _=>by omega) (fun _ _ _=>hany _) (fun _ h _=>hno (.inl h)) (fun _ h _=>hno (.inr h)) (fun _ _ _ _ _ _=>hany _) h0
theorem insFs_sim {p q:ProgS} (hg:q.globals=p.globals) {f:FuncS} {r:Nat}:∀ (xs:List InsS) (l:List FactS),(∀ x∈xs,x.ok∧rightS p f x=true)→InssSim p q r (fun _ _ regs=>FactsOK l regs) xs (insFs l xs) (fun _ _ regs=>FactsOK (xs.foldl stepF l) regs)
 | [],l,_=>.nil
 | x::xs,l,hx=>.cons (insF_sim hg (f:=f) (hx x (by simp)).1 (hx x (by simp)).2) (insFs_sim hg xs (stepF l x) fun y hy=>hx y (by simp [hy]))
theorem termF_sim {r:Nat} {l:List FactS} {t:TermS} {E:Nat→List Int→Prop} (hE:∀ o∈nextF t l,∀ regs,FactsOK l regs→Regs r regs→E o.toNat regs) {R:List Int→Prop} (hR:∀ regs,R regs→FactsOK l regs):TermSim r t (termF l t) R E:=by
 have e0:t.kind≠2→termF l t=argsT l t:=by
  intro h
  unfold termF
  split
  ·rw [if_neg h]
  ·rfl
 have hn:t.kind≠2→nextF t l=nextS t:=by intro h;unfold nextF;rw [if_pos h]
 have two:t.kind=2→∀ regs,FactsOK l regs→Regs r regs →
  (nextF t l=nextS t∧termF l t=argsT l t)∨(holdsS t.op (argS regs t.a) (argS regs t.b)=true∧nextF t l=[t.goto]∧termF l t=jumpT t.goto)∨(holdsS t.op (argS regs t.a) (argS regs t.b)=false∧nextF t l=[t.els]∧termF l t=jumpT t.els):=by
  intro h2 regs hf hr
  have hnx:nextF t l=(if (ofF l t.a).kind≠1∨(ofF l t.b).kind≠1 then nextS t else if holdsS t.op (ofF l t.a).n (ofF l t.b).n=true then [t.goto] else [t.els]):=by
   unfold nextF;rw [if_neg (by omega)]
  by_cases hk:(ofF l t.a).kind≠1∨(ofF l t.b).kind≠1
  ·left
   rw [if_pos hk] at hnx
   refine ⟨hnx,?_⟩
   unfold termF
   rw [nextF_argsT,hnx,nextS_2 h2]
  ·right
   rw [if_neg hk] at hnx
   have ha:argS regs t.a=(ofF l t.a).n:=by rcases hf.of t.a with ⟨_,e⟩|e<;>omega
   have hb:argS regs t.b=(ofF l t.b).n:=by rcases hf.of t.b with ⟨_,e⟩|e<;>omega
   rw [← ha,← hb] at hnx
   by_cases hh:holdsS t.op (argS regs t.a) (argS regs t.b)=true
   ·left
    rw [if_pos hh] at hnx
    refine ⟨hh,hnx,?_⟩
    unfold termF
    rw [nextF_argsT,hnx]
    dsimp only
    rw [if_pos h2]
   ·right
    rw [if_neg hh] at hnx
    refine ⟨by simpa using hh,hnx,?_⟩
    unfold termF
    rw [nextF_argsT,hnx]
    dsimp only
    rw [if_pos h2]
 refine ⟨fun h=>?_,fun h=>?_,fun h regs h1 h2 h3=>?_,fun h regs h1 h2 h3=>?_⟩
 ·rw [e0 (by omega)]
  exact ⟨h,fun regs h1 _=>argF_ok (hR _ h1) _⟩
 ·rw [e0 (by omega)]
  refine ⟨h,rfl,fun regs h1 h2=>hE _ ?_ regs (hR _ h1) h2⟩
  rw [hn (by omega)]
  unfold nextS
  rw [if_pos h];simp
 ·have hf:=hR _ h1
  rcases two h regs hf h2 with ⟨q1,q2⟩|⟨q1,q2,q3⟩|⟨q1,q2,q3⟩
  ·refine ⟨hE _ (by rw [q1,nextS_2 h];simp) regs hf h2,.inr ?_⟩
   rw [q2]
   refine ⟨h,rfl,?_⟩
   show holdsS t.op (argS regs (argF l t.a)) (argS regs (argF l t.b))=true
   rw [argF_ok hf,argF_ok hf];exact h3
  ·refine ⟨hE _ (by rw [q2];simp) regs hf h2,.inl ?_⟩
   rw [q3];exact ⟨rfl,rfl⟩
  ·rw [h3] at q1;cases q1
 ·have hf:=hR _ h1
  rcases two h regs hf h2 with ⟨q1,q2⟩|⟨q1,q2,q3⟩|⟨q1,q2,q3⟩
  ·refine ⟨hE _ (by rw [q1,nextS_2 h];simp) regs hf h2,.inr ?_⟩
   rw [q2]
   refine ⟨h,rfl,?_⟩
   show holdsS t.op (argS regs (argF l t.a)) (argS regs (argF l t.b))=false
   rw [argF_ok hf,argF_ok hf];exact h3
  ·rw [h3] at q1;cases q1
  ·refine ⟨hE _ (by rw [q2];simp) regs hf h2,.inl ?_⟩
   rw [q3];exact ⟨rfl,rfl⟩
def FoldR' (f f':FuncS):Prop:=∃ bl',FoldS f.regs f.blocks bl'∧f'={ f with blocks:=bl' }
theorem fold_func {p q:ProgS} (hg:q.globals=p.globals) {f f':FuncS} (hfo:funcOK p f=true) (hfk:f.ok) (ht:tgtOK f.blocks) (h:FoldR' f f'):FuncSim p q f f':=by
 obtain ⟨bl',hF,rfl⟩:=h
 unfold funcOK at hfo
 simp only [Bool.and_eq_true,decide_eq_true_eq] at hfo
 have hpos:0 < f.blocks.length:=hfo.1.2
 obtain ⟨hr⟩:=hF
 rename_i s
 obtain ⟨i,hw⟩:=solRun_ok ht hr (sol0_ok hpos f.regs)
 refine ⟨rfl,rfl,foldB_length _ _ _,fun k regs=>s.seen[k]?=some true∧∀ l,s.ins[k]?=some l→FactsOK l regs,fun regs hrg=>⟨i.zero,fun l hl=>?_⟩,fun k b b' hb hb' hex=>?_⟩
 ·refine ⟨?_,fun j g v hg _=>.inr (i.top l hl g (List.mem_of_getElem? hg))⟩
  rw [i.wid 0 l hl i.zero,hrg.len]
 ·have hb':(foldB f.blocks s.ins s.seen)[k]?=some b':=hb'
  obtain ⟨b1,l,hb1,hl,hh⟩:=foldS_at i hb'
  rw [hb] at hb1
  injection hb1 with hb1
  subst hb1
  have hbo:=List.all_eq_true.1 hfo.2 b (List.mem_of_getElem? hb)
  unfold blockOK at hbo
  simp only [Bool.and_eq_true] at hbo
  have hbk:=hfk.blocks b (List.mem_of_getElem? hb)
  have hx:∀ x∈b.ins,x.ok∧rightS p f x=true:=fun x hx=>⟨hbk.ins x hx,List.all_eq_true.1 hbo.1 x hx⟩
  rcases hh with ⟨hs,e⟩|⟨hs,e⟩
  ·subst e
   have hout:outF f.blocks s k=b.ins.foldl stepF l:=by
    unfold outF
    rw [Int.toNat_natCast,hb,hl];rfl
   refine ⟨fun _ _ regs=>FactsOK l regs,fun _ _ regs=>FactsOK (b.ins.foldl stepF l) regs,fun _ _ regs h=>h.2 l hl,insFs_sim hg b.ins l hx,?_⟩
   refine termF_sim (l:=b.ins.foldl stepF l) (fun o ho regs hf hrg=>?_) fun regs ⟨_,_,h⟩=>h
   rw [← hout] at ho
   obtain ⟨d1,d2⟩:=i.done k b hb hs (by rw [hw];simp) o ho
   refine ⟨d1,fun m hm=>?_⟩
   rw [← hout] at hf
   exact hf.le (d2 m hm)
  ·obtain ⟨regs,he,_⟩:=hex
   rw [hs] at he;cases he
def okA (regs:Int) (a:ArgS):Prop:=-1≤a.reg∧a.reg < regs
theorem argsS_iff {regs:Int} {l:List ArgS}:argsS regs l=true↔∀ a∈l,okA regs a:=by
 unfold argsS okA
 simp only [List.all_eq_true,Bool.and_eq_true,decide_eq_true_eq]
theorem okA_argF {regs:Int} (h0:0≤regs) {l:List FactS} {a:ArgS} (h:okA regs a):okA regs (argF l a):=by
 unfold argF
 split
 ·exact ⟨by show (-1:Int)≤-1;omega,by show (-1:Int) < regs;omega⟩
 ·exact h
theorem okA_num {regs:Int} (h0:0≤regs) (n:Int):okA regs ⟨-1,n⟩:=⟨by show (-1:Int)≤-1;omega,by show (-1:Int) < regs;omega⟩
structure RightI (p:ProgS) (f:FuncS) (x:InsS):Prop where
 op:1≤x.op∧x.op≤30
 reads:∀ a∈readsS x,okA f.regs a
 dst:-1≤x.dst∧x.dst < f.regs
 right:rightT p f x=true
theorem rightS_iff {p:ProgS} {f:FuncS} {x:InsS}:rightS p f x=true↔RightI p f x:=by
 unfold rightS
 simp only [Bool.and_eq_true,decide_eq_true_eq,argsS_iff]
 exact ⟨fun h=>⟨h.1.1.1.1,h.1.1.1.2,⟨h.1.1.2,h.1.2⟩,h.2⟩,fun h=>⟨⟨⟨⟨h.op,h.reads⟩,h.dst.1⟩,h.dst.2⟩,h.right⟩⟩
structure LikeP (p q:ProgS):Prop where
 glob:q.globals.length=p.globals.length
 len:q.funcs.length=p.funcs.length
 par:∀ n,paramsAt q n=paramsAt p n
theorem rightT_same {p q:ProgS} (h:LikeP p q) {f f':FuncS} (hs:f'.slots.length=f.slots.length) {x x':InsS} (e1:x'.op=x.op) (e2:x'.dst=x.dst) (e3:x'.size=x.size) (e4:x'.ref=x.ref) (e5:x'.args.length=x.args.length):rightT q f' x'=rightT p f x:=by
 unfold rightT
 rw [e1,e2,e3,e4,e5,h.glob,h.len,h.par,hs]
theorem reads_map (l:List FactS) (x:InsS):readsS { x with a:=argF l x.a,b:=argF l x.b,args:=x.args.map (argF l) }=(readsS x).map (argF l):=by
 unfold readsS
 dsimp only
 repeat' split
 all_goals rfl
theorem rightT_two {p:ProgS} {f:FuncS} {x:InsS} (h:(1≤x.op∧x.op≤21)):rightT p f x=decide (0≤x.dst):=by
 unfold rightT
 rw [if_neg (by omega),if_neg (by omega),if_neg (by omega),if_neg (by omega),if_neg (by omega),if_neg (by omega),if_neg (by omega),if_neg (by omega)]
theorem right_plain {q:ProgS} {f':FuncS} {op dst:Int} {a:ArgS} (ho:op=1∨op=2) (h0:0≤dst) (h1:dst < f'.regs) (ha:okA f'.regs a):RightI q f' (plainI op dst a):=by
 refine ⟨by show 1≤op∧op≤30;omega,fun b hb=>?_,⟨by show -1≤dst;omega,h1⟩,?_⟩
 ·have:readsS (plainI op dst a)=[a]:=by
   unfold readsS plainI
   dsimp only
   rw [if_neg (by omega),if_neg (by omega),if_neg (fun h=>by
    rcases h with h|h
    ·have:=two_iff.1 h;omega
    ·omega),if_neg (by omega)]
  rw [this] at hb
  rw [List.mem_singleton.1 hb];exact ha
 ·rw [rightT_two (by show 1≤op∧op≤21;omega)]
  exact decide_eq_true h0
theorem right_simple {q:ProgS} {f':FuncS} {x:InsS} (h:RightI q f' x) (hr:0≤f'.regs):RightI q f' (simpleF x):=by
 unfold simpleF
 split
 ·rename_i h1
  have hd:0≤x.dst:=by
   have:=h.right
   rw [rightT_two (by omega)] at this
   simpa using this
  have ha:okA f'.regs x.a:=by
   refine h.reads x.a ?_
   unfold readsS
   rw [if_neg (by omega),if_neg (by omega),if_pos (.inl (two_iff.2 (by omega)))];simp
  split
  ·exact right_plain (.inr rfl) hd h.dst.2 ha
  ·split
   ·exact right_plain (.inl rfl) hd h.dst.2 (okA_num hr _)
   ·split
    ·exact right_plain (.inr rfl) hd h.dst.2 ha
    ·exact h
 ·exact h
theorem right_insF {p q:ProgS} (hL:LikeP p q) {f f':FuncS} (hs:f'.slots.length=f.slots.length) (hg:f'.regs=f.regs) (hr:0≤f.regs) {x:InsS} (h:RightI p f x) (l:List FactS):RightI q f' (insF l x):=by
 unfold insF
 refine right_simple ?_ (by omega)
 unfold knownF
 split
 ·rename_i hk
  have hd:0≤x.dst:=by
   have:=hk.1
   unfold resF at this
   split at this
   ·assumption
   ·exact absurd this (by decide)
  exact right_plain (.inl rfl) hd (by rw [hg];exact h.dst.2) (okA_num (by omega) _)
 ·refine ⟨h.op,fun a ha=>?_,⟨h.dst.1,by rw [hg];exact h.dst.2⟩,?_⟩
  ·rw [reads_map] at ha
   obtain ⟨b,hb,rfl⟩:=List.mem_map.1 ha
   rw [hg]
   exact okA_argF hr (h.reads b hb)
  ·exact (rightT_same (x:=x) (x':={ x with a:=argF l x.a,b:=argF l x.b,args:=x.args.map (argF l) }) hL hs rfl rfl rfl rfl (by simp)).trans h.right
theorem right_same {p q:ProgS} (hL:LikeP p q) {f f':FuncS} (hs:f'.slots.length=f.slots.length) (hg:f'.regs=f.regs) {x:InsS} (h:RightI p f x):RightI q f' x :=
 ⟨h.op,by rw [hg];exact h.reads,by rw [hg];exact h.dst,by rw [rightT_same hL hs rfl rfl rfl rfl rfl];exact h.right⟩
structure RightT (f:FuncS) (n:Nat) (t:TermS):Prop where
 kind:1≤t.kind∧t.kind≤3
 reads:∀ a∈treadsS t,okA f.regs a
 op:t.kind=2→16≤t.op∧t.op≤21
 next:∀ o∈nextS t,0≤o∧o < n
theorem endsS_iff {f:FuncS} {t:TermS}:endsS f t=true↔RightT f f.blocks.length t:=by
 unfold endsS targetsS
 simp only [Bool.and_eq_true,decide_eq_true_eq,argsS_iff,List.all_eq_true,Bool.or_eq_true,Bool.not_eq_true',beq_eq_false_iff_ne,ne_eq]
 constructor
 ·rintro ⟨⟨⟨h1,h2⟩,h3⟩,h4⟩
  refine ⟨h1,h2,fun hk=>?_,h4⟩
  rcases h3 with h3|h3
  ·exact absurd hk h3
  ·exact h3
 ·intro h
  refine ⟨⟨⟨h.kind,h.reads⟩,?_⟩,h.next⟩
  by_cases hk:t.kind=2
  ·exact .inr (h.op hk)
  ·exact .inl hk
theorem right_termF {f f':FuncS} {n n':Nat} (hn:n'=n) (hg:f'.regs=f.regs) (hr:0≤f.regs) {t:TermS} (h:RightT f n t) (l:List FactS):RightT f' n' (termF l t):=by
 have hnx:∀ o∈nextS (termF l t),0≤o∧o < (n':Int):=fun o ho=>by rw [hn];exact h.next o (nextF_sub o (nextF_termF o ho))
 have hargs:∀ a∈treadsS (argsT l t),okA f'.regs a:=by
  intro a ha
  have e:treadsS (argsT l t)=(treadsS t).map (argF l):=by
   unfold treadsS argsT
   dsimp only
   repeat' split
   all_goals rfl
  rw [e] at ha
  obtain ⟨b,hb,rfl⟩:=List.mem_map.1 ha
  rw [hg]
  exact okA_argF hr (h.reads b hb)
 have hsame:termF l t=argsT l t→RightT f' n' (termF l t):=fun e=>⟨by rw [e];exact h.kind,by rw [e];exact hargs,by rw [e];exact h.op,hnx⟩
 have hcase:termF l t=argsT l t∨∃ k,termF l t=jumpT k:=by
  unfold termF
  split
  ·split
   ·exact .inr ⟨_,rfl⟩
   ·exact .inl rfl
  ·exact .inl rfl
 rcases hcase with e|⟨k,e⟩
 ·exact hsame e
 ·refine ⟨by rw [e];exact ⟨by show (1:Int)≤1;decide,by show (1:Int)≤3;decide⟩,fun a ha=>?_,fun hk=>?_,hnx⟩
  ·rw [e] at ha
   exact absurd ha (by unfold treadsS jumpT;simp)
  ·rw [e] at hk
   exact absurd hk (show ¬ (1:Int)=2 by decide)
structure RightF (p:ProgS) (f:FuncS):Prop where
 params:0≤f.params∧f.params≤f.regs∧f.params≤6
 secret:(f.secret:Int)=f.params
 pos:0 < f.blocks.length
 ins:∀ b∈f.blocks,∀ x∈b.ins,RightI p f x
 term:∀ b∈f.blocks,RightT f f.blocks.length b.term
theorem funcOK_iff {p:ProgS} {f:FuncS}:funcOK p f=true↔RightF p f:=by
 unfold funcOK blockOK
 simp only [Bool.and_eq_true,decide_eq_true_eq,List.all_eq_true,rightS_iff,endsS_iff]
 exact ⟨fun h=>⟨⟨h.1.1.1.1.1,h.1.1.1.1.2,h.1.1.1.2⟩,h.1.1.2,h.1.2,fun b hb=>(h.2 b hb).1,fun b hb=>(h.2 b hb).2⟩,fun h=>⟨⟨⟨⟨⟨h.params.1,h.params.2.1⟩,h.params.2.2⟩,h.secret⟩,h.pos⟩,fun b hb=>⟨h.ins b hb,h.term b hb⟩⟩⟩
theorem fold_right {p q:ProgS} (hL:LikeP p q) {f f':FuncS} (h:RightF p f) (ht:tgtOK f.blocks) (hF:FoldR' f f'):RightF q f':=by
 obtain ⟨bl',hS,rfl⟩:=hF
 obtain ⟨hr⟩:=hS
 rename_i s
 obtain ⟨i,hw⟩:=solRun_ok ht hr (sol0_ok h.pos f.regs)
 have hreg:0≤f.regs:=by have:=h.params;omega
 have hat:∀ b'∈foldB f.blocks s.ins s.seen,∃ b∈f.blocks,b'=b∨∃ l,b'=blockF l b:=by
  intro b' hb'
  obtain ⟨k,hk⟩:=List.mem_iff_getElem?.1 hb'
  obtain ⟨b,l,hb,hl,hh⟩:=foldS_at i hk
  exact ⟨b,List.mem_of_getElem? hb,by
   rcases hh with ⟨_,e⟩|⟨_,e⟩
   ·exact .inr ⟨l,e⟩
   ·exact .inl e⟩
 refine ⟨h.params,h.secret,by show 0 < (foldB f.blocks s.ins s.seen).length;rw [foldB_length];exact h.pos,fun b' hb' x hx=>?_,fun b' hb'=>?_⟩
 ·obtain ⟨b,hb,hh⟩:=hat b' hb'
  rcases hh with e|⟨l,e⟩
  ·subst e;exact right_same (f:=f) (f':={ f with blocks:=foldB f.blocks s.ins s.seen }) hL rfl rfl (h.ins _ hb x hx)
  ·subst e
   obtain ⟨x0,hx0,m,_,rfl⟩:=insFs_mem hx
   exact right_insF (f:=f) (f':={ f with blocks:=foldB f.blocks s.ins s.seen }) hL rfl rfl hreg (h.ins b hb x0 hx0) m
 ·obtain ⟨b,hb,hh⟩:=hat b' hb'
  rcases hh with e|⟨l,e⟩
  ·subst e
   have:=h.term _ hb
   exact ⟨this.kind,this.reads,this.op,by rw [show ({ f with blocks:=foldB f.blocks s.ins s.seen }:FuncS).blocks.length=f.blocks.length from foldB_length _ _ _];exact this.next⟩
  ·subst e
   exact right_termF (f:=f) (f':={ f with blocks:=foldB f.blocks s.ins s.seen }) (show (foldB f.blocks s.ins s.seen).length=f.blocks.length from foldB_length _ _ _) rfl hreg (h.term b hb) _
structure TurnP (R:FuncS→FuncS→Prop) (p q:ProgS):Prop where
 glob:q.globals=p.globals
 data:q.data=p.data
 main:q.main=p.main
 len:q.funcs.length=p.funcs.length
 rel:∀ (i:Nat) (f f':FuncS),p.funcs[i]?=some f→q.funcs[i]?=some f'→R f f'
theorem TurnP.same {R:FuncS→FuncS→Prop} {p q:ProgS} (h:TurnP R p q) (hp:∀ f f',R f f'→f'.params=f.params):SameP p q:=by
 refine ⟨h.glob,h.data,h.main,h.len,fun n=>?_⟩
 unfold paramsAt
 split
 ·cases hf:p.funcs[n.toNat]? with
  | none =>
   have hf':q.funcs[n.toNat]?=none:=by rw [List.getElem?_eq_none_iff] at hf ⊢;have:=h.len;omega
   rw [hf']
  | some f =>
   have hl:=(List.getElem?_eq_some_iff.1 hf).1
   obtain ⟨f',hf'⟩:∃ f',q.funcs[n.toNat]?=some f':=⟨_,List.getElem?_eq_getElem (by have:=h.len;omega)⟩
   rw [hf']
   simp only [Option.map_some,hp f f' (h.rel _ f f' hf hf')]
 ·rfl
theorem SameP.like {p q:ProgS} (h:SameP p q):LikeP p q:=⟨by rw [h.glob],h.len,h.par⟩
theorem placed_same {p q:ProgS} (h:SameP p q) (g:GlobS):placedS q g=placedS p g:=by
 unfold placedS
 rw [h.data,h.len]
theorem turn_right {R:FuncS→FuncS→Prop} {p q:ProgS} (h:TurnP R p q) (hS:SameP p q) (hr:rightP p=true) (hR:∀ f f',f∈p.funcs→R f f'→RightF p f→RightF q f'):rightP q=true:=by
 unfold rightP at hr ⊢
 simp only [Bool.and_eq_true,decide_eq_true_eq,List.all_eq_true,funcOK_iff] at hr ⊢
 obtain ⟨⟨⟨⟨h1,h2⟩,h3⟩,h4⟩,h5⟩:=hr
 refine ⟨⟨⟨⟨by rw [h.main,hS.par];exact h1,by rw [h.data];exact h2⟩,by rw [h.data];exact h3⟩,fun g hg=>?_⟩,fun f' hf'=>?_⟩
 ·rw [h.glob] at hg
  rw [placed_same hS];exact h4 g hg
 ·obtain ⟨k,hk⟩:=List.mem_iff_getElem?.1 hf'
  have hl:=(List.getElem?_eq_some_iff.1 hk).1
  obtain ⟨f,hf⟩:∃ f,p.funcs[k]?=some f:=⟨_,List.getElem?_eq_getElem (by have:=h.len;omega)⟩
  have hm:=List.mem_of_getElem? hf
  exact hR f f' hm (h.rel k f f' hf hk) (h5 f hm)
theorem fold_pass {p q:ProgS} (h:TurnP FoldR' p q) (hok:p.ok) (hr:rightP p=true) (hnf:p.funcs.length≤1000000) (ht:∀ f∈p.funcs,tgtOK f.blocks):PassSim p q∧rightP q=true:=by
 have hS:=h.same fun f f' ⟨bl,_,e⟩=>by rw [e]
 refine ⟨⟨hS,hnf,hok,hr,fun i f f' hf hf'=>?_⟩,turn_right h hS hr fun f f' hf hR hF=>fold_right hS.like hF (ht f hf) hR⟩
 have hm:=List.mem_of_getElem? hf
 have hfo:funcOK p f=true:=by
  have:=hr
  unfold rightP at this
  simp only [Bool.and_eq_true] at this
  exact List.all_eq_true.1 this.2 f hm
 exact fold_func hS.glob hfo (hok.funcs f hm) (ht f hm) (h.rel i f f' hf hf')
def fsizeS (bl:List BlockS):Nat:=(bl.map fun b=>b.ins.length+1).sum
def psizeS (p:ProgS):Nat:=(p.funcs.map fun f=>fsizeS f.blocks).sum
attribute [local irreducible] W RS
def factC (f:FactS):List Value:=[.int .i64 f.kind,.int .i64 f.n]
def factsC (l:List FactS):List Value:=l.flatMap factC
theorem factsC_length (l:List FactS):(factsC l).length=l.length * 2:=by
 induction l with
 | nil=>rfl
 | cons a l ih=>unfold factsC at *;rw [List.flatMap_cons,List.length_append,ih];simp [factC];omega
theorem factsC_cons (a:FactS) (l:List FactS):factsC (a::l)=factC a++factsC l:=rfl
theorem factsC_free (l:List FactS):∀ v∈factsC l,bnd 0 v:=by
 intro v hv
 obtain ⟨f,_,hf⟩:=List.mem_flatMap.1 hv
 simp only [factC,List.mem_cons,List.not_mem_nil,or_false] at hf
 rcases hf with e|e<;>subst e<;>simp
theorem factsC_at:∀ {l:List FactS} {i:Nat} {f:FactS},l[i]?=some f→takeV (0+i * 2) 2 (factsC l)=factC f
 | a::l,0,f,h=>by
  simp only [List.getElem?_cons_zero,Option.some.injEq] at h
  subst h
  rw [takeV_eq,factsC_cons];rfl
 | a::l,i+1,f,h=>by
  have:=factsC_at (l:=l) (i:=i) (by simpa using h)
  rw [takeV_eq] at this ⊢
  rw [factsC_cons,show 0+(i+1) * 2=(0+i * 2)+2 by omega,← List.drop_drop]
  rw [← this]
  show List.take 2 (List.drop 2 (List.drop (0+i * 2) _))=_
  rw [List.drop_drop,Nat.add_comm (0+i * 2) 2,← List.drop_drop]
  rfl
theorem factsC_set:∀ {l:List FactS} {i:Nat} {f:FactS},i < l.length→setL (factsC l) (0+i * 2) (factC f)=factsC (l.set i f)
 | a::l,0,f,_=>by
  rw [factsC_cons,List.set_cons_zero,factsC_cons]
  unfold factC
  rw [setL_cons,setL_cons,setL_nil];rfl
 | a::l,i+1,f,h=>by
  have:=factsC_set (l:=l) (i:=i) (f:=f) (by simpa using h)
  rw [factsC_cons,List.set_cons_succ,factsC_cons,← this,show 0+(i+1) * 2=(factC a).length+(0+i * 2) by simp [factC];omega]
  exact setL_app2 (factC a) (factsC l) _ _
inductive FaAt (h:Hp):Option Addr→List FactS→Prop
 | none:FaAt h Option.none []
 | some {b:Nat} {l:List FactS} (hm:h.m b=Option.some ⟨⟨factsC l⟩,145⟩) (hr:rwM≤b):FaAt h (Option.some ⟨b,0,Option.none⟩) l
def faH (h:Hp) (A:Option Addr) (l:List FactS):Hp:=match A with
 | some a=>h.set a.block ⟨⟨factsC l⟩,145⟩
 | none=>h
theorem FaAt.up {h H:Hp} {A:Option Addr} {l:List FactS} (s:FaAt h A l) (hu:∀ i b,h.m i=Option.some b→H.m i=Option.some b):FaAt H A l:=by
 cases s with
 | none=>exact .none
 | some hm hr=>exact .some (hu _ _ hm) hr
theorem faH_same {h:Hp} {A:Option Addr} {l:List FactS} (hs:FaAt h A l):faH h A l=h:=by
 cases hs with
 | none=>rfl
 | some hm hr =>
  rename_i k
  refine Hp.eq (fun i=>?_) rfl
  show (if i=k then some _ else h.m i)=h.m i
  split
  ·rename_i e;rw [e,hm]
  ·rfl
theorem faH_ok {P:Program} {h:Hp} (s0:Sat P h) {A:Option Addr} {s s':List FactS} (hs:FaAt h A s):h.n≤(faH h A s').n∧∀ i b,(faH h A s').m i=some b→i < (faH h A s').n∧∀ u∈b.cells,bnd (faH h A s').n u:=by
 cases hs with
 | none=>exact ⟨Nat.le_refl _,fun i b hb=>⟨s0.dom i b hb,s0.bd i b hb⟩⟩
 | some hm hr =>
  rename_i k
  refine ⟨Nat.le_refl _,fun i b hb=>?_⟩
  have hb:(if i=k then some ⟨⟨factsC s'⟩,145⟩ else h.m i)=some b:=hb
  split at hb
  ·rename_i e
   simp only [Option.some.injEq] at hb
   subst hb;subst e
   exact ⟨s0.dom _ _ hm,fun u hu=>bnd_mono (Nat.zero_le _) _ (factsC_free _ u (by simpa using hu))⟩
  ·exact ⟨s0.dom i b hb,s0.bd i b hb⟩
theorem ofF_neg {l:List FactS} {a:ArgS} (h:a.reg < 0):ofF l a=numF a.num:=by unfold ofF;rw [if_pos h]
theorem ofF_big {l:List FactS} {a:ArgS} (h:(l.length:Int)≤a.reg):ofF l a=anyF:=by
 unfold ofF
 rw [if_neg (by omega),List.getElem?_eq_none_iff.2 (by omega)];rfl
theorem ofF_at {l:List FactS} {a:ArgS} {f:FactS} (h0:0≤a.reg) (h:l[a.reg.toNat]?=some f):ofF l a=f:=by
 unfold ofF
 rw [if_neg (by omega),h];rfl
theorem of_tf (l:List FactS) (A:Option Addr) (c:Nat) (a:ArgS) (hl:l.length≤1000000000) (h:Hp) (hs:FaAt h A l):TF Tryd.prog 98 ⟨[.slice A l.length c,.agg ⟨argC a⟩]⟩ h (.agg ⟨factC (ofF l a)⟩) h:=by
 by_cases hneg:a.reg < 0
 ·rw [ofF_neg hneg]
  refine TF.still (fn:=Tryd.f98) (c:=(Tryd.f98.body.getD .skip)) Tryd.func98 (by kernel_rfl) Tryd.ntmps98 (by kernel_rfl) (by simp [factC,numF]) ?_
  conv=>arg 2;whnf
  repeat (first|refine Y1a ?_|refine Y3 ?_|refine Y7 ?_|refine Y4 ?_|refine Yf ?_|refine Y11 ?_|refine Y0 ?_|refine Y14 ?_|refine Y1 ?_|refine Y6 ?_)
  exact endsK_ret _ (.cons (.cellN rfl rfl rfl (Nat.le_of_ble_eq_true rfl)) .nil) ⟨rfl,rfl⟩
 ·by_cases hbig:(l.length:Int)≤a.reg
  ·rw [ofF_big hbig]
   refine TF.still (fn:=Tryd.f98) (c:=(Tryd.f98.body.getD .skip)) Tryd.func98 (by kernel_rfl) Tryd.ntmps98 (by kernel_rfl) (by simp [factC,anyF]) ?_
   conv=>arg 2;whnf
   repeat (first|refine Y2x ?_|refine Y3 ?_|refine Y2 ?_|refine Y7 ?_|refine Y4 ?_|refine Yf ?_|refine Y11 ?_|refine Y0 ?_|refine Y14 ?_|refine Y1 ?_|refine Y6 ?_|refine Y5 ?_)
   exact endsK_ret _ (.cons (.cellN rfl rfl rfl (Nat.le_of_ble_eq_true rfl)) .nil) ⟨rfl,rfl⟩
  ·have hlt:a.reg.toNat < l.length:=by omega
   have hnat:a.reg=(a.reg.toNat:Int):=by omega
   obtain ⟨f,hf⟩:∃ f,l[a.reg.toNat]?=some f:=⟨_,List.getElem?_eq_getElem hlt⟩
   rw [ofF_at (by omega) hf]
   cases hs with
   | none=>simp at hlt
   | some hm hr =>
    rename_i b
    refine TF.dom fun hd=>?_
    have hn:=hd _ _ hm
    have hle:0+a.reg.toNat * 2+2≤(factsC l).length:=by rw [factsC_length];omega
    refine TF.still (fn:=Tryd.f98) (c:=(Tryd.f98.body.getD .skip)) Tryd.func98 (by kernel_rfl) Tryd.ntmps98 (by kernel_rfl) (by simp [factC]) ?_
    conv=>arg 2;whnf
    repeat (first|refine Y1p ?_|((with_reducible apply RS.loadNB);(iterate 3 exact rfl);exact hm;exact hn;exact hle;exact factsC_at hf)|refine Y2x ?_|refine Y2 ?_|refine Y7 ?_|refine Y4 ?_|refine Yf ?_|refine Y0 ?_|refine Y38 ?_|refine Y1 ?_|refine Y5 ?_)
    exact endsK_ret _ (.cons (.cellN rfl rfl rfl (Nat.le_of_ble_eq_true rfl)) .nil) ⟨rfl,rfl⟩
theorem meet_tf (a b:FactS) (h:Hp):TF Tryd.prog 110 ⟨[.agg ⟨factC a⟩,.agg ⟨factC b⟩]⟩ h (.agg ⟨factC (meetF a b)⟩) h:=by
 refine TF.still (fn:=Tryd.f110) (c:=(Tryd.f110.body.getD .skip)) Tryd.func110 (by kernel_rfl) Tryd.ntmps110 (by kernel_rfl) (by simp [factC]) ?_
 conv=>arg 2;whnf
 unfold meetF
 repeat' (first|refine Y1v ?_|refine Yh ?_|refine Y9 ?_|refine Ye ?_|refine Yv ?_|refine Y7 ?_|refine Ya ?_|refine Y4 ?_|refine Yf ?_|refine Y11 ?_|refine Yl ?_|refine Y0 ?_|refine Ys ?_|refine Y1 ?_|refine Y5 ?_|((refine YD ?_ ?_)<;>intro _)|((refine YG ?_ ?_)<;>intro _)|((refine YC ?_ ?_)<;>intro _)|((refine YN ?_ ?_)<;>intro _))
 all_goals exact endsK_ret _ (.cons (.cellN rfl rfl rfl (Nat.le_of_ble_eq_true rfl)) .nil) ⟨rfl,by (repeat' split)<;>first|rfl|(exfalso;simp_all;done)|(exfalso;omega)⟩
theorem base_up {h H:Hp} (hd:∀ i b,h.m i=some b→i < h.n) (hH:∀ id,id < h.n→H.m id=h.m id):∀ i b,h.m i=some b→H.m i=some b:=fun i b hb=>by rw [hH i (hd i b hb)];exact hb
theorem farg_tf (l:List FactS) (A:Option Addr) (c:Nat) (a:ArgS) (hl:l.length≤1000000000) (h:Hp) (hs:FaAt h A l):TF Tryd.prog 81 ⟨[.slice A l.length c,.agg ⟨argC a⟩]⟩ h (.agg ⟨argC (argF l a)⟩) h:=by
 refine TF.dom fun hd=>?_
 refine TF.still (fn:=Tryd.f81) (c:=(Tryd.f81.body.getD .skip)) Tryd.func81 (by kernel_rfl) Tryd.ntmps81 (by kernel_rfl) (by simp [argC]) ?_
 conv=>arg 2;whnf
 repeat' (first|((with_reducible apply RS.callB);(iterate 3 exact rfl);first|exact fun H hH=>of_tf l A c _ hl H (hs.up (base_up hd hH));exact Nm_free (by simp [factC])|exact fun H hH=>(numN_tf _ H);exact Nm_free (by simp))|((with_reducible first|apply RS.move|apply RS.fieldAddr|apply RS.box);iterate 3 exact rfl)|refine Ye ?_|refine Y7 ?_|refine Ya ?_|refine Y4 ?_|refine Yf ?_|refine Y0 ?_|refine Y2k ?_|refine Y1 ?_|((refine YD ?_ ?_)<;>intro _)|((refine YG ?_ ?_)<;>intro _)|((refine YC ?_ ?_)<;>intro _)|((refine YN ?_ ?_)<;>intro _))
 all_goals refine endsK_ret _ (.cons (.cellN rfl rfl rfl (Nat.le_of_ble_eq_true rfl)) .nil) ⟨rfl,?_⟩
 all_goals first
  | (rw [argF,if_pos (by assumption)];rfl)
  | (rw [argF,if_neg (by assumption)];rfl)
def simpleV (x:InsS) (A:Option Addr) (c:Nat):List Value :=
 if 3≤x.op∧x.op≤15∧x.b.reg < 0 then
  if x.b.num=0∧(x.op=3∨x.op=4∨x.op=11∨x.op=12∨13≤x.op) then insC (plainI 2 x.dst x.a) none 0
  else if x.b.num=0∧(x.op=5∨x.op=10) then insC (plainI 1 x.dst ⟨-1,0⟩) none 0
  else if x.b.num=1∧(x.op=5∨x.op=6∨x.op=7) then insC (plainI 2 x.dst x.a) none 0
  else insC x A c
 else insC x A c
theorem simpleV_eq (x:InsS) (r:Nat):simpleV x (insA (x,r)) (insK (x,r))=insVC (simpleF x,r):=by
 unfold simpleV simpleF
 repeat' split
 all_goals first|rfl|exact (insVC_eq (x,r)).symm
theorem insC_bd {n:Nat} (x:InsS) {A:Option Addr} {c:Nat} (hA:∀ a,A=some a→a.block < n):∀ v∈insC x A c,bnd n v:=by
 intro v hv
 simp only [insC,List.mem_cons,List.not_mem_nil,or_false] at hv
 rcases hv with e|e|e|e|e|e|e|e|e|e|e|e<;>subst e
 any_goals simp
 cases A with
 | none=>simp
 | some a=>simpa using hA a rfl
theorem simpleV_bd {n:Nat} (x:InsS) {A:Option Addr} {c:Nat} (hA:∀ a,A=some a→a.block < n):bnd n (.agg ⟨simpleV x A c⟩):=by
 rw [bnd_agg]
 have hn:∀ a,(none:Option Addr)=some a→a.block < n:=fun a h=>by cases h
 intro v hv
 have hv:v∈simpleV x A c:=by simpa using hv
 unfold simpleV at hv
 repeat' split at hv
 all_goals first|exact insC_bd _ hA v hv|exact insC_bd _ hn v hv
set_option maxRecDepth 100000 in
theorem simple_tf (x:InsS) (A:Option Addr) (c:Nat) (h:Hp) (hA:∀ a,A=some a→a.block < h.n):TF Tryd.prog 83 ⟨[.agg ⟨insC x A c⟩]⟩ h (.agg ⟨simpleV x A c⟩) h:=by
 refine TF.exact (fn:=Tryd.f83) (c:=(Tryd.f83.body.getD .skip)) Tryd.func83 (by kernel_rfl) Tryd.ntmps83 (by kernel_rfl) (fun s0=>⟨Nat.le_refl _,simpleV_bd x hA,fun i b hb=>⟨s0.dom i b hb,s0.bd i b hb⟩⟩) fun π s0=>?_
 conv=>arg 2;whnf
 unfold simpleV
 repeat' (first|refine Y55 ?_|refine Y1v ?_|refine Yh ?_|refine Y9 ?_|refine Y3 ?_|refine Y2 ?_|refine Ye ?_|refine Y7 ?_|refine Ya ?_|refine Y4 ?_|refine Yf ?_|refine Y11 ?_|refine Yl ?_|refine Y0 ?_|refine Ys ?_|refine Y1 ?_|refine Y6 ?_|refine Y5 ?_|((refine YD ?_ ?_)<;>intro _)|((refine YG ?_ ?_)<;>intro _)|((refine YC ?_ ?_)<;>intro _)|((refine YN ?_ ?_)<;>intro _))
 all_goals refine endsK_ret _ (.cons (.cellN rfl rfl rfl (Nat.le_of_ble_eq_true rfl)) .nil) fun B' a=>⟨?_,a.up⟩
 all_goals first
  | (rw [if_neg (by omega)];rfl)
  | (rw [if_pos (by omega),if_pos (by omega)];rfl)
  | (rw [if_pos (by omega),if_neg (by omega),if_pos (by omega)];rfl)
  | (rw [if_pos (by omega),if_neg (by omega),if_neg (by omega),if_pos (by omega)];rfl)
  | (rw [if_pos (by omega),if_neg (by omega),if_neg (by omega),if_neg (by omega)];rfl)
set_option maxRecDepth 100000 in
theorem fnext_ex (t:TermS) (l:List FactS) (A:Option Addr) (c:Nat) (hl:l.length≤1000000000) (h:Hp) (hs:FaAt h A l) :
 EX Tryd.prog 84 [.agg ⟨termC t⟩,.slice A l.length c] h (fun v h'=>∃ A' c',v=.slice A' (nextF t l).length c'∧IntAt h' A' (nextF t l)∧Old h h'∧∀ a,A'=some a→h.n≤a.block):=by
 refine EX.intro (fn:=Tryd.f84) (c:=(Tryd.f84.body.getD .skip)) Tryd.func84 (by kernel_rfl) Tryd.ntmps84 (by kernel_rfl) fun π s0=>?_
 conv=>arg 2;whnf
 have hd:=s0.dom
 by_cases hk:t.kind=2
 ·repeat (first|refine Y4e ?_|refine Y1v ?_|refine Y2 ?_|refine Ye ?_|refine Y7 ?_|refine Ya ?_|refine Y4 ?_|refine Yf ?_|refine Y0 ?_|refine Y29 ?_|refine Y1 ?_|refine Y5 ?_)
  repeat' ((first|((refine YD ?_ ?_)<;>intro _)|((refine YG ?_ ?_)<;>intro _)|((refine YC ?_ ?_)<;>intro _)|((refine YN ?_ ?_)<;>intro _))<;>repeat (first|((with_reducible apply RS.callEx);(iterate 3 exact rfl);intro B5 hB5;refine ⟨_,next_ex t B5,?_⟩;rintro v H5 π5 ⟨AL,cL,rfl,hrow,ho5,hnewL⟩ sH5 hle5)|refine Ym ?_|refine Y52 ?_|refine Y4x ?_|refine Yh ?_|refine Y9 ?_|refine Ye ?_|refine Y7 ?_|refine Ya ?_|refine Yl ?_|refine Y0 ?_|refine Y2k ?_|refine Y1 ?_|refine Y6 ?_))
  ·have e:nextF t l=nextS t:=by unfold nextF;rw [if_neg (by omega),if_pos (.inl (by simpa using ‹((ofF l t.a).kind != 1)=true›))]
   rw [e]
   exact endsK_ret _ (.cons (.tmp rfl) .nil) fun B' a=>⟨AL,cL,rfl,hrow.up a.up,(hB5.oldH.trans ho5).trans a.oldH,fun q hq=>Nat.le_trans hB5.le (hnewL q hq)⟩
  ·have e:nextF t l=nextS t:=by unfold nextF;rw [if_neg (by omega),if_pos (.inr (by simpa using ‹((ofF l t.b).kind != 1)=true›))]
   rw [e]
   exact endsK_ret _ (.cons (.tmp rfl) .nil) fun B' a=>⟨AL,cL,rfl,hrow.up a.up,(hB5.oldH.trans ho5).trans a.oldH,fun q hq=>Nat.le_trans hB5.le (hnewL q hq)⟩
  ·have q1:(ofF l t.a).kind=1:=by simpa using ‹((ofF l t.a).kind != 1)=false›
   have q2:(ofF l t.b).kind=1:=by simpa using ‹((ofF l t.b).kind != 1)=false›
   have e:nextF t l=[t.goto]:=by unfold nextF;rw [if_neg (by omega),if_neg (by omega),if_pos (by assumption)]
   rw [e]
   exact endsK_ret _ (.cons (.tmp rfl) .nil) fun B' a=>⟨_,_,rfl,.inr ⟨_,rfl,a.loc 3 (by decide:(3:Nat) < 4)⟩,a.oldH,fun q hq=>by injection hq with hq;rw [← hq];exact a.lo 3 (by decide:(3:Nat) < 4)⟩
  ·have q1:(ofF l t.a).kind=1:=by simpa using ‹((ofF l t.a).kind != 1)=false›
   have q2:(ofF l t.b).kind=1:=by simpa using ‹((ofF l t.b).kind != 1)=false›
   have e:nextF t l=[t.els]:=by unfold nextF;rw [if_neg (by omega),if_neg (by omega),if_neg (by simp_all)]
   rw [e]
   exact endsK_ret _ (.cons (.tmp rfl) .nil) fun B' a=>⟨_,_,rfl,.inr ⟨_,rfl,a.loc 3 (by decide:(3:Nat) < 4)⟩,a.oldH,fun q hq=>by injection hq with hq;rw [← hq];exact a.lo 3 (by decide:(3:Nat) < 4)⟩
 ·have e:nextF t l=nextS t:=by unfold nextF;rw [if_pos hk]
  rw [e]
  repeat (first|((with_reducible apply RS.callEx);(iterate 3 exact rfl);intro B5 hB5;refine ⟨_,next_ex t B5,?_⟩;rintro v H5 π5 ⟨AL,cL,rfl,hrow,ho5,hnewL⟩ sH5 hle5)|refine Y1a ?_|refine Y3 ?_|refine Y7 ?_|refine Ya ?_|refine Y0 ?_|refine Y21 ?_|refine Y1 ?_|refine Y6 ?_)
  exact endsK_ret _ (.cons (.tmp rfl) .nil) fun B' a=>⟨AL,cL,rfl,hrow.up a.up,(hB5.oldH.trans ho5).trans a.oldH,fun q hq=>Nat.le_trans hB5.le (hnewL q hq)⟩
def rowsV:List Nat→List (List FactS)→List Value
 | a::al,l::ls=>rowVl 2 a l::rowsV al ls
 | _,_=>[]
theorem rowsV_length:∀ {al:List Nat} {ls:List (List FactS)},al.length=ls.length→(rowsV al ls).length=ls.length
 | [],[],_=>rfl
 | a::al,l::ls,h=>by simp [rowsV,rowsV_length (al:=al) (ls:=ls) (by simpa using h)]
theorem rowsV_get:∀ {al:List Nat} {ls:List (List FactS)} {i a:Nat} {l:List FactS},al[i]?=some a→ls[i]?=some l→(rowsV al ls)[i]?=some (rowVl 2 a l)
 | _::_,_::_,0,_,_,h1,h2=>by
  simp only [List.getElem?_cons_zero,Option.some.injEq] at h1 h2
  subst h1;subst h2;rfl
 | _::_,_::_,i+1,_,_,h1,h2=>by
  rw [rowsV,List.getElem?_cons_succ]
  exact rowsV_get (by simpa using h1) (by simpa using h2)
 | [],_,_,_,_,h1,_=>by simp at h1
 | _::_,[],_,_,_,_,h2=>by simp at h2
theorem rowsV_set:∀ {al:List Nat} {ls:List (List FactS)} (i a:Nat) (l:List FactS),al.length=ls.length→(rowsV al ls).set i (rowVl 2 a l)=rowsV (al.set i a) (ls.set i l)
 | [],[],_,_,_,_=>rfl
 | _::_,_::_,0,_,_,_=>rfl
 | _::al,_::ls,i+1,a,l,h=>by simp [rowsV,rowsV_set (al:=al) (ls:=ls) i a l (by simpa using h)]
structure SolAt (h:Hp) (N sb fb ib nb:Nat) (al:List Nat) (n:Nat) (s:SolS):Prop where
 rw:rwM≤N
 alen:al.length=n
 ilen:s.ins.length=n
 slen:s.seen.length=n
 gs:N≤sb
 gi:N≤ib
 gn:N≤nb
 hi:h.m ib=some ⟨⟨rowsV al s.ins⟩,143⟩
 hn:h.m nb=some ⟨⟨s.seen.map .bool⟩,4⟩
 row:∀ (i a:Nat) (l:List FactS),al[i]?=some a→s.ins[i]?=some l→l≠[]→N≤a∧h.m a=some ⟨⟨factsC l⟩,145⟩
 sep:∀ (i j a:Nat) (l m:List FactS),al[i]?=some a→al[j]?=some a→s.ins[i]?=some l→s.ins[j]?=some m→l≠[]→m≠[]→i=j
 stk:∃ A cap,h.m sb=some ⟨⟨[.pointer (some ⟨fb,0,none⟩),.slice (some ⟨ib,0,none⟩) n n,.slice (some ⟨nb,0,none⟩) n n,.slice A s.work.length cap]⟩,141⟩∧StkRow h 3 A cap (intsV s.work)∧∀ a,A=some a→N≤a.block
theorem _root_.Go.AH.StkRow.keep {h H:Hp} {e:TypeId} {A:Option Addr} {cap:Nat} {vs:List Value} (s:StkRow h e A cap vs) (hu:∀ i b,h.m i=some b→b.elem=e→H.m i=some b):StkRow H e A cap vs:=by
 cases s with
 | nil=>exact .nil
 | row hm hr hc=>exact .row (hu _ _ hm rfl) hr hc
section
variable {h H:Hp} {N sb fb ib nb:Nat} {al:List Nat} {n:Nat} {s:SolS}
theorem SolAt.up (o:SolAt h N sb fb ib nb al n s) (hu:∀ i b,h.m i=some b→H.m i=some b):SolAt H N sb fb ib nb al n s :=
 ⟨o.rw,o.alen,o.ilen,o.slen,o.gs,o.gi,o.gn,hu _ _ o.hi,hu _ _ o.hn,fun i a l h1 h2 h3=>⟨(o.row i a l h1 h2 h3).1,hu _ _ (o.row i a l h1 h2 h3).2⟩,o.sep,by
  obtain ⟨A,cap,h1,h2,h3⟩:=o.stk;exact ⟨A,cap,hu _ _ h1,h2.up hu,h3⟩⟩
theorem SolAt.setSeen (o:SolAt h N sb fb ib nb al n s) {t:List Bool} (ht:t.length=n) (hb:H.m nb=some ⟨⟨t.map .bool⟩,4⟩) (hk:∀ i b,h.m i=some b→b.elem≠4→H.m i=some b):SolAt H N sb fb ib nb al n ⟨s.ins,t,s.work⟩ :=
 ⟨o.rw,o.alen,o.ilen,ht,o.gs,o.gi,o.gn,hk _ _ o.hi (by simp),hb,fun i a l h1 h2 h3=>⟨(o.row i a l h1 h2 h3).1,hk _ _ (o.row i a l h1 h2 h3).2 (by simp)⟩,o.sep,by
  obtain ⟨A,cap,h1,h2,h3⟩:=o.stk;exact ⟨A,cap,hk _ _ h1 (by simp),h2.keep fun i b hb he=>hk i b hb (by rw [he];decide),h3⟩⟩
theorem SolAt.setWork (o:SolAt h N sb fb ib nb al n s) {w:List Int} (hk:∀ i b,h.m i=some b→b.elem≠3→b.elem≠141→H.m i=some b) (hs:∃ A cap,H.m sb=some ⟨⟨[.pointer (some ⟨fb,0,none⟩),.slice (some ⟨ib,0,none⟩) n n,.slice (some ⟨nb,0,none⟩) n n,.slice A w.length cap]⟩,141⟩∧StkRow H 3 A cap (intsV w)∧∀ a,A=some a→N≤a.block):SolAt H N sb fb ib nb al n ⟨s.ins,s.seen,w⟩ :=
 ⟨o.rw,o.alen,o.ilen,o.slen,o.gs,o.gi,o.gn,hk _ _ o.hi (by simp) (by simp),hk _ _ o.hn (by simp) (by simp),fun i a l h1 h2 h3=>⟨(o.row i a l h1 h2 h3).1,hk _ _ (o.row i a l h1 h2 h3).2 (by simp) (by simp)⟩,o.sep,hs⟩
theorem set_get {α:Type} {l:List α} {k i:Nat} {x y:α} (h:(l.set k x)[i]?=some y):(i=k∧y=x)∨(i≠k∧l[i]?=some y):=by
 rw [List.getElem?_set] at h
 by_cases e:k=i
 ·rw [if_pos e] at h
  split at h
  ·injection h with h;exact .inl ⟨e.symm,h.symm⟩
  ·cases h
 ·rw [if_neg e] at h;exact .inr ⟨fun e'=>e e'.symm,h⟩
theorem SolAt.newRow (o:SolAt h N sb fb ib nb al n s) {k q:Nat} {l:List FactS} (hb:H.m ib=some ⟨⟨(rowsV al s.ins).set k (rowVl 2 q l)⟩,143⟩) (hq:l≠[]→N≤q∧H.m q=some ⟨⟨factsC l⟩,145⟩∧∀ b,h.m q≠some b) (hk:∀ i b,h.m i=some b→b.elem≠143→H.m i=some b):SolAt H N sb fb ib nb (al.set k q) n ⟨s.ins.set k l,s.seen,s.work⟩:=by
 have hrow:∀ (i a:Nat) (m:List FactS),(al.set k q)[i]?=some a→(s.ins.set k l)[i]?=some m→m≠[]→(i=k∧a=q∧m=l)∨(i≠k∧al[i]?=some a∧s.ins[i]?=some m):=by
  intro i a m h1 h2 h3
  rcases set_get h1 with ⟨e1,e2⟩|⟨e1,e2⟩<;>rcases set_get h2 with ⟨f1,f2⟩|⟨f1,f2⟩
  ·exact .inl ⟨e1,e2,f2⟩
  ·exact absurd e1 f1
  ·exact absurd f1 e1
  ·exact .inr ⟨e1,e2,f2⟩
 refine ⟨o.rw,by rw [List.length_set];exact o.alen,by rw [List.length_set];exact o.ilen,o.slen,o.gs,o.gi,o.gn,by rw [hb,rowsV_set _ _ _ (by rw [o.alen,o.ilen])],hk _ _ o.hn (by simp),fun i a m h1 h2 h3=>?_,fun i j a m m' h1 h2 h3 h4 h5 h6=>?_,?_⟩
 ·rcases hrow i a m h1 h2 h3 with ⟨_,rfl,rfl⟩|⟨_,g1,g2⟩
  ·exact ⟨(hq h3).1,(hq h3).2.1⟩
  ·exact ⟨(o.row i a m g1 g2 h3).1,hk _ _ (o.row i a m g1 g2 h3).2 (by simp)⟩
 ·rcases hrow i a m h1 h3 h5 with ⟨e1,e2,e3⟩|⟨_,g1,g2⟩<;>rcases hrow j a m' h2 h4 h6 with ⟨f1,f2,f3⟩|⟨_,g3,g4⟩
  ·rw [e1,f1]
  ·subst e2;subst e3
   exact absurd (o.row j a m' g3 g4 h6).2 ((hq h5).2.2 _)
  ·subst f2;subst f3
   exact absurd (o.row i a m g1 g2 h5).2 ((hq h6).2.2 _)
  ·exact o.sep i j a m m' g1 g3 g2 g4 h5 h6
 ·obtain ⟨A,cap,h1,h2,h3⟩:=o.stk
  exact ⟨A,cap,hk _ _ h1 (by simp),h2.keep fun i b hb he=>hk i b hb (by rw [he];decide),h3⟩
def SolE (e:TypeId):Prop:=e=143∨e=4∨e=145∨e=141∨e=3
theorem SolAt.upE (o:SolAt h N sb fb ib nb al n s) (hu:∀ i b,h.m i=some b→SolE b.elem→H.m i=some b):SolAt H N sb fb ib nb al n s :=
 ⟨o.rw,o.alen,o.ilen,o.slen,o.gs,o.gi,o.gn,hu _ _ o.hi (.inl rfl),hu _ _ o.hn (.inr (.inl rfl)),fun i a l h1 h2 h3=>⟨(o.row i a l h1 h2 h3).1,hu _ _ (o.row i a l h1 h2 h3).2 (.inr (.inr (.inl rfl)))⟩,o.sep,by
  obtain ⟨A,cap,h1,h2,h3⟩:=o.stk;exact ⟨A,cap,hu _ _ h1 (.inr (.inr (.inr (.inl rfl)))),h2.keep fun i b hb he=>hu i b hb (.inr (.inr (.inr (.inr he)))),h3⟩⟩
theorem SolAt.setRow (o:SolAt h N sb fb ib nb al n s) {k q:Nat} {l m:List FactS} (hq:al[k]?=some q) (hl:s.ins[k]?=some l) (hne:l≠[]) (hlm:m.length=l.length) (hb:H.m q=some ⟨⟨factsC m⟩,145⟩) (hk:∀ i b,h.m i=some b→SolE b.elem→i≠q→H.m i=some b):SolAt H N sb fb ib nb al n ⟨s.ins.set k m,s.seen,s.work⟩:=by
 have hmn:m≠[]:=by intro e;rw [e] at hlm;exact hne (List.length_eq_zero_iff.1 hlm.symm)
 have hqm:=(o.row k q l hq hl hne).2
 have keep:∀ {i:Nat} {b:Blk},h.m i=some b→SolE b.elem→b.elem≠145→H.m i=some b:=by
  intro i b hb hE he
  refine hk i b hb hE fun e=>?_
  rw [e,hqm] at hb
  injection hb with hb
  exact he (by rw [← hb])
 have hkl:=(List.getElem?_eq_some_iff.1 hl).1
 have hrow:∀ (i:Nat) (x:List FactS),(s.ins.set k m)[i]?=some x→(i=k∧x=m)∨(i≠k∧s.ins[i]?=some x):=by
  intro i x h2
  exact set_get h2
 refine ⟨o.rw,o.alen,by rw [List.length_set];exact o.ilen,o.slen,o.gs,o.gi,o.gn,?_,keep o.hn (.inr (.inl rfl)) (by simp),fun i a x h1 h2 h3=>?_,fun i j a x y h1 h2 h3 h4 h5 h6=>?_,?_⟩
 ·have e:=rowsV_set (al:=al) (ls:=s.ins) k q m (by rw [o.alen,o.ilen])
  have e2:al.set k q=al:=set_same hq
  have e3:(rowsV al s.ins).set k (rowVl 2 q m)=rowsV al s.ins:=by
   apply set_same
   rw [rowsV_get hq hl,rowVl_eq,rowVl_eq,if_neg hne,if_neg hmn,if_neg hne,if_neg hmn,hlm]
  rw [e2] at e
  rw [← e,e3]
  exact keep o.hi (.inl rfl) (by simp)
 ·rcases hrow i x h2 with ⟨e1,e2⟩|⟨e1,e2⟩
  ·subst e1;subst e2
   rw [hq] at h1;injection h1 with h1;subst h1
   exact ⟨(o.row i q l hq hl hne).1,hb⟩
  ·refine ⟨(o.row i a x h1 e2 h3).1,hk _ _ (o.row i a x h1 e2 h3).2 (.inr (.inr (.inl rfl))) fun e=>?_⟩
   subst e
   exact e1 (o.sep i k a x l h1 hq e2 hl h3 hne)
 ·have fix:∀ (i:Nat) (x:List FactS),(s.ins.set k m)[i]?=some x→x≠[]→∃ z,s.ins[i]?=some z∧z≠[]:=by
   intro i x hx hn
   rcases hrow i x hx with ⟨e1,e2⟩|⟨e1,e2⟩
   ·subst e1;exact ⟨l,hl,hne⟩
   ·exact ⟨x,e2,hn⟩
  obtain ⟨z1,g1,g2⟩:=fix i x h3 h5
  obtain ⟨z2,g3,g4⟩:=fix j y h4 h6
  exact o.sep i j a z1 z2 h1 h2 g1 g3 g2 g4
 ·obtain ⟨A,cap,h1,h2,h3⟩:=o.stk
  exact ⟨A,cap,keep h1 (.inr (.inr (.inr (.inl rfl)))) (by simp),h2.keep fun i b hb he=>keep hb (.inr (.inr (.inr (.inr he)))) (by rw [he];decide),h3⟩
end
end Go.Proofs.YtjhloakacicdiaaDoor
