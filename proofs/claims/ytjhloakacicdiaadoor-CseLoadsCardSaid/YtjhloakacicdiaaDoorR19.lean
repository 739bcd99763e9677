/-
  What the functions that the law reaches compute,told by plain data;it holds of programs that pass the check of right form and are light.
-/
import Derived.Test.YtjhloakacicdiaaDoorR10
import Derived.Test.YtjhloakacicdiaaDoorR11
import Derived.Test.YtjhloakacicdiaaDoorR15
import Derived.Test.YtjhloakacicdiaaDoorR18
set_option linter.unusedVariables false
set_option linter.unusedSimpArgs false
namespace Go.Proofs.YtjhloakacicdiaaDoor
open Go.AH
attribute [local irreducible] W RS
theorem cse_turn:TurnEX 30 (fun f=>OkL f.regs f.blocks∧InsOK f) CseR:=by
 intro B N bb bv f A1 c1 A2 c2 sec hK hsec hN hbb hm hod hsl hr1 hr2
 obtain ⟨hok,hio⟩:=hK
 obtain ⟨nm,pa,se,rg,sl,bl⟩:=f
 have hsl:sL bv=bl:=hsl
 subst hsl
 have hown:=hod.ownA hN hbb hm
 have hbs:∀ b∈bv,b.s∈sL bv:=fun b hb=>List.mem_map_of_mem hb
 refine (cfunc_ex B N bb bv ⟨nm,pa,se,rg,sl,sL bv⟩ A1 c1 A2 c2 (capOf 9) hown ?_ (fun b hb=>?_) (fun b hb x hx=>?_)).mono ?_
 ·have:=hok.len;dsimp only at this;rw [sL_length] at this;omega
 ·have h1:=Nat.le_trans (sizeS_le (hbs b hb)) hok.size
  have h2:b.s.ins.length=b.ins.length:=by simp [BV.s]
  omega
 ·have hx':x.1∈b.s.ins:=List.mem_map_of_mem hx
  exact ⟨(hio _ (hbs b hb) _ hx').1,(hok.fit _ (hbs b hb) _ hx').1⟩
 rintro v h' s ⟨rfl,hown',hoff,hoth⟩
 have row:∀ {α:Type} {e:TypeId} {A:Option Addr} {l:List α} {enc:α→Value},e≠50→e≠58→e≠46→e≠37→e≠25→RowE B N e A l enc→RowE (cutE h') N e A l enc:=by
  intro α e A l enc h1 h2 h3 h4 h5 hr
  exact hr.up fun i b hb hbe=>cutE_in (hoth i b hb (by rw [hbe];exact h1) (by rw [hbe];exact h2) (by rw [hbe];exact h3)) (by rw [hbe];exact h4) (by rw [hbe];exact h5)
 refine ⟨_,_,rfl,⟨A1,c1,A2,c2,some ⟨bb,0,none⟩,capOf 9,sec,rfl,hsec,(row (by decide) (by decide) (by decide) (by decide) (by decide) hr1).sl fun _=>rfl,(row (by decide) (by decide) (by decide) (by decide) (by decide) hr2).sl fun _=>rfl,?_⟩,?_,hoff⟩
 ·exact hown'.own.cut.sl
 ·unfold CseR cseF
  rw [sL_cse]
theorem cse_prog_ex (p:ProgS) (hK:∀ f∈p.funcs,(OkL f.regs f.blocks∧InsOK f)∧CopyOK f) (hn:p.funcs.length≤100000) (h:Hp) (pb:Nat) (e:TypeId) (A1:Option Addr) (c1:Nat) (A2:Option Addr) (c2:Nat) (hP:h.m pb=some ⟨⟨progC p A1 c1 A2 c2⟩,e⟩) (hs:SlAt h A1 6 p.funcs (funcRS h)) :
 EX Tryd.prog 29 [.pointer (some ⟨pb,0,none⟩)] h (fun v h'=>∃ ob A c fs,v=.pointer (some ⟨ob,0,none⟩)∧h'.m ob=some ⟨⟨progC { p with funcs:=fs } A c A2 c2⟩,25⟩∧SlAt h' A 6 fs (funcRS h')∧fs.length=p.funcs.length∧(∀ (i:Nat) (f f':FuncS),p.funcs[i]?=some f→fs[i]?=some f'→CseR f f')∧Old h h'∧h.n≤ob):=by
 refine EX.intro (fn:=Tryd.f29) (c:=(Tryd.f29.body.getD .skip)) Tryd.func29 (by kernel_rfl) Tryd.ntmps29 (by kernel_rfl) fun π s0=>?_
 conv=>arg 2;whnf
 repeat (first|((with_reducible apply RS.callEx);(iterate 3 exact rfl);intro B1 hB1;refine ⟨_,each_ex 30 _ _ cse_turn p hK hn B1 pb e A1 c1 A2 c2 (hB1.up _ _ hP) (hs.mono hB1.up fun _ _ h=>funcRS_mono hB1.up h),?_⟩;rintro v H2 π2 ⟨ob,A,c,fs,rfl,hO,hS,hl,hR,ho,hlo⟩ sH2 hle2)|refine Yh ?_|refine Y0 ?_|refine Y1j ?_|refine Y1 ?_)
 exact endsK_ret _ (.cons (.tmp rfl) .nil) fun B' a=>⟨ob,A,c,fs,rfl,a.up _ _ hO,hS.mono a.up fun _ _ h=>funcRS_mono a.up h,hl,hR,(hB1.oldH.trans ho).trans a.oldH,Nat.le_trans hB1.le hlo⟩
abbrev Gh:=List LeakS→Option (List LeakS × List LeakS)
def gNone:Gh:=fun tr=>some ([],tr)
def gSeq (a b:Gh):Gh:=fun tr=>match a tr with
 | none=>none
 | some (o,r)=>match b r with
  | none=>none
  | some (o2,r2)=>some (o++o2,r2)
def gOne (keep:Bool) (k:LeakS→Gh):Gh:=fun tr=>match tr with
 | []=>none
 | l::r=>match k l r with
  | none=>none
  | some (o,r')=>some ((if keep=true then [l] else [])++o,r')
def gIns (gc:Int→Gh) (x x':InsS):Gh :=
 if x.op=26∨x.op=27 then gOne (decide (x'.op=x.op)) fun _=>gNone
 else if x.op=28 then gc x.ref
 else if x.op=29 then gOne true fun l=>gc (funcAt l.a)
 else gNone
def gInss (gc:Int→Gh):List InsS→List InsS→Gh
 | x::xs,x'::xs'=>gSeq (gIns gc x x') (gInss gc xs xs')
 | _,_=>gNone
def gBlocks (gc:Int→Gh) (bl bl':List BlockS):Nat→Int→Gh
 | 0,_=>gNone
 | k+1,bi=>match bl[bi.toNat]?,bl'[bi.toNat]? with
  | some b,some b'=>gSeq (gInss gc b.ins b'.ins)
   (if b.term.kind=3 then gNone
   else if b.term.kind=1 then gBlocks gc bl bl' k b.term.goto
   else gOne (decide (b'.term.kind=2)) fun l=>if l.a=1 then gBlocks gc bl bl' k b.term.goto else gBlocks gc bl bl' k b.term.els)
  | _,_=>gNone
def gCall (p q:ProgS) (N:Nat):Nat→Int→Gh
 | 0,_=>gNone
 | d+1,n=>match p.funcs[n.toNat]?,q.funcs[n.toNat]? with
  | some f,some f'=>gBlocks (gCall p q N d) f.blocks f'.blocks N 0
  | _,_=>gNone
def Sim (g:Gh) (a a' b b':List LeakS):Prop:=∃ n qn,a'=n.reverse++a∧b'=qn.reverse++b∧∀ r,g (n++r)=some (qn,r)
def lks (s:RunS) (l:List LeakS):RunS:={ s with leaks:=l }
structure Regs (r:Nat) (regs:List Int):Prop where
 len:regs.length=r
 fit:∀ v∈regs,fitI v
structure InsSim (p q:ProgS) (r:Nat) (x x':InsS) (J J':List Int→RunS→List Int→Prop):Prop where
 call:(x.op=28∨x.op=29)→x'.op=x.op∧x'.dst=x.dst∧x'.ref=x.ref∧x'.args.length=x.args.length∧∀ at_ s regs,J at_ s regs→Regs r regs→argS regs x'.a=argS regs x.a∧accV regs x'.args x.args.length=accV regs x.args x.args.length∧∀ s1 v,fitI v→J' at_ s1 (setReg regs x.dst v)
 plain:¬ (x.op=28∨x.op=29)→∀ cl cl' at_ s regs l,J at_ s regs→Regs r regs→(insS p cl at_ s regs x).1.fin=0 →
  ∃ l',insS q cl' at_ (lks s l) regs x'=(lks (insS p cl at_ s regs x).1 l',(insS p cl at_ s regs x).2)∧(∀ gc,Sim (gIns gc x x') s.leaks (insS p cl at_ s regs x).1.leaks l l')∧J' at_ (insS p cl at_ s regs x).1 (insS p cl at_ s regs x).2
def CallSim (p q:ProgS) (N d:Nat):Prop:=∀ (s:RunS) (n:Int) (args:List Int) (l:List LeakS),(∀ v∈args,fitI v)→paramsAt p n=some (args.length:Int)→(callK p N d s n args).2.fin=0 →
 fitI (callK p N d s n args).1∧∃ l',callK q N d (lks s l) n args=((callK p N d s n args).1,lks (callK p N d s n args).2 l')∧Sim (gCall p q N d n) s.leaks (callK p N d s n args).2.leaks l l'
structure SameP (p q:ProgS):Prop where
 glob:q.globals=p.globals
 data:q.data=p.data
 main:q.main=p.main
 len:q.funcs.length=p.funcs.length
 par:∀ n,paramsAt q n=paramsAt p n
inductive InssSim (p q:ProgS) (r:Nat):(List Int→RunS→List Int→Prop)→List InsS→List InsS→(List Int→RunS→List Int→Prop)→Prop
 | nil {J}:InssSim p q r J [] [] J
 | cons {J J1 J2 x x' xs xs'} (h:InsSim p q r x x' J J1) (ht:InssSim p q r J1 xs xs' J2):InssSim p q r J (x::xs) (x'::xs') J2
structure TermSim (r:Nat) (t t':TermS) (R:List Int→Prop) (E:Nat→List Int→Prop):Prop where
 ret:t.kind=3→t'.kind=3∧∀ regs,R regs→Regs r regs→argS regs t'.a=argS regs t.a
 jump:t.kind=1→t'.kind=1∧t'.goto=t.goto∧∀ regs,R regs→Regs r regs→E t.goto.toNat regs
 yes:t.kind=2→∀ regs,R regs→Regs r regs→holdsS t.op (argS regs t.a) (argS regs t.b)=true→E t.goto.toNat regs∧((t'.kind=1∧t'.goto=t.goto)∨(t'.kind=2∧t'.goto=t.goto∧holdsS t'.op (argS regs t'.a) (argS regs t'.b)=true))
 no:t.kind=2→∀ regs,R regs→Regs r regs→holdsS t.op (argS regs t.a) (argS regs t.b)=false→E t.els.toNat regs∧((t'.kind=1∧t'.goto=t.els)∨(t'.kind=2∧t'.els=t.els∧holdsS t'.op (argS regs t'.a) (argS regs t'.b)=false))
structure BlockSim (p q:ProgS) (r:Nat) (b b':BlockS) (R:List Int→Prop) (E:Nat→List Int→Prop):Prop where
 sim:∃ J0 J:List Int→RunS→List Int→Prop,(∀ at_ s regs,R regs→J0 at_ s regs)∧InssSim p q r J0 b.ins b'.ins J∧TermSim r b.term b'.term (fun regs=>∃ at_ s,J at_ s regs) E
structure FuncSim (p q:ProgS) (f f':FuncS):Prop where
 regs:f'.regs=f.regs
 slots:f'.slots=f.slots
 len:f'.blocks.length=f.blocks.length
 sim:∃ E:Nat→List Int→Prop,(∀ regs,Regs f.regs.toNat regs→E 0 regs)∧∀ (i:Nat) (b b':BlockS),f.blocks[i]?=some b→f'.blocks[i]?=some b'→(∃ regs,E i regs)→BlockSim p q f.regs.toNat b b' (E i) E
def tailK (ins:RunS→List Int→InsS→RunS × List Int) (f:FuncS) (k:Nat) (t:TermS) (r:RunS × List Int):Int × RunS × List Int :=
 if r.1.fin=0 then
  if (stepS r.1).fin=0 then
   if t.kind=3 then (argS r.2 t.a,stepS r.1,r.2)
   else if t.kind=1 then blocksS ins f k t.goto (stepS r.1) r.2
   else if holdsS t.op (argS r.2 t.a) (argS r.2 t.b)=true then blocksS ins f k t.goto (leakS (stepS r.1) (leakB true)) r.2
   else blocksS ins f k t.els (leakS (stepS r.1) (leakB false)) r.2
  else (0,stepS r.1,r.2)
 else (0,r.1,r.2)
structure PassSim (p q:ProgS):Prop extends SameP p q where
 nf:p.funcs.length≤1000000
 ok:p.ok
 right:rightP p=true
 sim:∀ (i:Nat) (f f':FuncS),p.funcs[i]?=some f→q.funcs[i]?=some f'→FuncSim p q f f'
def HoldF (f:FactS) (v:Int):Prop:=(f.kind=1∧v=f.n)∨f.kind=2
structure FactsOK (l:List FactS) (regs:List Int):Prop where
 len:l.length=regs.length
 at_:∀ (i:Nat) (f:FactS) (v:Int),l[i]?=some f→regs[i]?=some v→HoldF f v
def valS (p:ProgS) (at_:List Int) (regs:List Int) (x:InsS):Int :=
 if x.op=1∨x.op=2 then argS regs x.a
 else if twoS x.op=true then (reckonS x.op (argS regs x.a) (argS regs x.b)).1
 else if x.op=22 then widenS (argS regs x.a) x.size x.signed
 else if x.op=23 then i64 (i64 (65536+placeOf p x.ref)+x.off)
 else if x.op=24 then i64 (atOf at_ x.ref+x.off)
 else 4194304+16 * x.ref
def FoldR' (f f':FuncS):Prop:=∃ bl',FoldS f.regs f.blocks bl'∧f'={ f with blocks:=bl' }
def okA (regs:Int) (a:ArgS):Prop:=-1≤a.reg∧a.reg < regs
structure RightI (p:ProgS) (f:FuncS) (x:InsS):Prop where
 op:1≤x.op∧x.op≤30
 reads:∀ a∈readsS x,okA f.regs a
 dst:-1≤x.dst∧x.dst < f.regs
 right:rightT p f x=true
structure LikeP (p q:ProgS):Prop where
 glob:q.globals.length=p.globals.length
 len:q.funcs.length=p.funcs.length
 par:∀ n,paramsAt q n=paramsAt p n
structure RightT (f:FuncS) (n:Nat) (t:TermS):Prop where
 kind:1≤t.kind∧t.kind≤3
 reads:∀ a∈treadsS t,okA f.regs a
 op:t.kind=2→16≤t.op∧t.op≤21
 next:∀ o∈nextS t,0≤o∧o < n
structure RightF (p:ProgS) (f:FuncS):Prop where
 params:0≤f.params∧f.params≤f.regs∧f.params≤6
 secret:(f.secret:Int)=f.params
 pos:0 < f.blocks.length
 ins:∀ b∈f.blocks,∀ x∈b.ins,RightI p f x
 term:∀ b∈f.blocks,RightT f f.blocks.length b.term
structure TurnP (R:FuncS→FuncS→Prop) (p q:ProgS):Prop where
 glob:q.globals=p.globals
 data:q.data=p.data
 main:q.main=p.main
 len:q.funcs.length=p.funcs.length
 rel:∀ (i:Nat) (f f':FuncS),p.funcs[i]?=some f→q.funcs[i]?=some f'→R f f'
def fsizeS (bl:List BlockS):Nat:=(bl.map fun b=>b.ins.length+1).sum
def psizeS (p:ProgS):Nat:=(p.funcs.map fun f=>fsizeS f.blocks).sum
def psizeL (l:List FuncS):Nat:=(l.map fun f=>fsizeS f.blocks).sum
structure KeepsP (p q:ProgS):Prop where
 ok:q.ok
 light:LightP q
 right:rightP q=true
 main:q.main=p.main
 data:q.data=p.data
 glob:q.globals.length=p.globals.length
 len:q.funcs.length=p.funcs.length
 size:psizeL q.funcs≤psizeL p.funcs
 head:∀ (i:Nat) (f f':FuncS),p.funcs[i]?=some f→q.funcs[i]?=some f'→f'.name=f.name∧f'.params=f.params
 run:∀ (N:Nat) (pub sec:List Int) (fuel:Int),(runS p N pub sec fuel).fin=0→(runS q N pub sec fuel).fin=0∧(runS q N pub sec fuel).exit=(runS p N pub sec fuel).exit∧(runS q N pub sec fuel).out=(runS p N pub sec fuel).out∧(runS q N pub sec fuel).steps≤(runS p N pub sec fuel).steps
 two:∀ (N:Nat) (pub sec pub' sec':List Int) (fuel:Int),(runS p N pub sec fuel).fin=0→(runS p N pub' sec' fuel).fin=0→(runS p N pub sec fuel).leaks=(runS p N pub' sec' fuel).leaks→(runS q N pub sec fuel).leaks=(runS q N pub' sec' fuel).leaks
def InsK (x y:InsS):Prop:=y.ok∧y.args.length≤x.args.length
def BlockK (b c:BlockS):Prop:=c.ok∧c.ins.length=b.ins.length∧∀ y∈c.ins,∃ x∈b.ins,InsK x y
structure FuncK (f f':FuncS):Prop where
 name:f'.name=f.name
 params:f'.params=f.params
 regs:f'.regs=f.regs
 slots:f'.slots=f.slots
 secret:f'.secret=f.secret
 len:f'.blocks.length=f.blocks.length
 at_:∀ (k:Nat) (b':BlockS),f'.blocks[k]?=some b'→∃ b,f.blocks[k]?=some b∧BlockK b b'
def regV (regs:List Int) (k:Int):Int:=regs.getD k.toNat 0
def ldV (s:RunS) (at_:Int) (n:Nat) (sg:Bool):Option Int :=
 if inData s at_ n then some (widenS (loadV s.data (at_ - 65536).toNat n) n sg)
 else if inStack s at_ n then some (widenS (loadV s.stack (at_ - (134217728 - (s.stack.length:Int))).toNat n) n sg)
 else none
def hasV (p:ProgS) (at_:List Int) (s:RunS) (regs:List Int) (x:InsS) (v:Int):Prop :=
 (3≤x.op∧x.op≤25∧v=valS p at_ regs x)∨(x.op=26∧ldV s (i64 (argS regs x.a+x.off)) x.size.toNat x.signed=some v)
structure LikeI (regs:List Int) (x y:InsS):Prop where
 op:y.op=x.op
 size:y.size=x.size
 signed:y.signed=x.signed
 ref:y.ref=x.ref
 off:y.off=x.off
 a:twoS x.op=false→argS regs y.a=argS regs x.a
 two:twoS x.op=true→reckonS x.op (argS regs y.a) (argS regs y.b)=reckonS x.op (argS regs x.a) (argS regs x.b)
structure KnowS (p:ProgS) (c:CseS) (at_:List Int) (s:RunS) (regs:List Int):Prop where
 cop:∀ r∈c.m.rows,∀ k a,r.2=rowM k a→0≤k∧argS regs a=regV regs k
 kn:∀ k∈c.w,0≤k.2∧hasV p at_ s regs k.1 (regV regs k.2)
section
variable {p:ProgS} {c:CseS} {at_:List Int} {s t:RunS} {regs:List Int}
end
end Go.Proofs.YtjhloakacicdiaaDoor
