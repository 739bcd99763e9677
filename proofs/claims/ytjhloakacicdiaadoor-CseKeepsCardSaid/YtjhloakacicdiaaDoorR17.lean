/-
  What the functions that the law reaches compute,told by plain data;it holds of programs that pass the check of right form and are light.
-/
import Derived.Test.YtjhloakacicdiaaDoorR14
import Derived.Test.YtjhloakacicdiaaDoorR15
import Derived.Test.YtjhloakacicdiaaDoorR16
import Derived.Test.YtjhloakacicdiaaDoorR9
import Derived.Test.YtjhloakacicdiaaDoorS2
set_option linter.unusedVariables false
set_option linter.unusedSimpArgs false
namespace Go.Proofs.YtjhloakacicdiaaDoor
open Go.AH
attribute [local irreducible] W RS
theorem argsC_set:∀ {l:List ArgS} {i:Nat} {a:ArgS},i < l.length→setL (argsC l) (0+i * 2) (argC a)=argsC (l.set i a)
 | b::l,0,a,_=>by
  show setL (argC b++argsC l) _ (argC a)=argC a++argsC l
  unfold argC
  rw [setL_cons,setL_cons,setL_nil];rfl
 | b::l,i+1,a,h=>by
  have:=argsC_set (l:=l) (i:=i) (a:=a) (by simpa using h)
  show setL (argC b++argsC l) _ _=argC b++argsC (l.set i a)
  rw [← this,show 0+(i+1) * 2=(argC b).length+(0+i * 2) by simp [argC];omega]
  exact setL_app2 (argC b) (argsC l) _ _
structure KeepH (h:Hp) (N:Nat) (B:Hp):Prop where
 off:OffS (fun j=>N≤j) h B
 oth:∀ j x,h.m j=some x→x.elem≠50→x.elem≠58→x.elem≠46→B.m j=some x
structure FunI (B:Hp) (fb rb:Nat) (FC:List Value):Prop where
 f:B.m fb=some ⟨⟨FC⟩,37⟩
 r:B.m rb=some ⟨⟨cellsV (.agg ⟨funcC ⟨⟨#[]⟩,0,0,0,[],[]⟩ none 0 none 0 none 0⟩)⟩,37⟩
theorem set_self (h:Hp) (i:Nat) (b:Blk):(h.set i b).m i=some b:=by show (if i=i then _ else _)=_;rw [if_pos rfl]
theorem insVC_one (x:InsV):(cellsV (.agg ⟨insVC x⟩)).all (·.oneCell')=true:=by rw [insVC_eq];rfl
def fitIB (n:Int):Bool:=decide (-9223372036854775808≤n) && decide (n≤9223372036854775807)
theorem fitIB_ok {n:Int} (h:fitIB n=true):fitI n:=by simpa [fitIB,fitI] using h
def ArgS.okB (a:ArgS):Bool:=fitIB a.reg && fitIB a.num
def InsS.okB (x:InsS):Bool:=fitIB x.op && fitIB x.dst && x.a.okB && x.b.okB && fitIB x.size && fitIB x.ref && fitIB x.off && decide (x.args.length≤281474976710656) && x.args.all ArgS.okB
def TermS.okB (x:TermS):Bool:=fitIB x.kind && fitIB x.op && x.a.okB && x.b.okB && fitIB x.goto && fitIB x.els
def BlockS.okB (x:BlockS):Bool:=decide (x.ins.length≤281474976710656) && x.ins.all InsS.okB && x.term.okB
def FuncS.okB (x:FuncS):Bool:=fitIB x.params && fitIB x.regs && decide (x.secret≤281474976710656) && decide (x.slots.length≤281474976710656) && x.slots.all fitIB && decide (x.blocks.length≤281474976710656) && x.blocks.all BlockS.okB
def PartS.okB (x:PartS):Bool:=fitIB x.kind && fitIB x.n && decide (x.data.length≤281474976710656) && x.data.all (fun a=>decide (0≤a) && decide (a≤255))
def GlobS.okB (x:GlobS):Bool:=fitIB x.place && fitIB x.size && decide (x.parts.length≤281474976710656) && x.parts.all PartS.okB
def ProgS.okB (x:ProgS):Bool:=decide (x.funcs.length≤281474976710656) && x.funcs.all FuncS.okB && decide (x.globals.length≤281474976710656) && x.globals.all GlobS.okB && fitIB x.data && fitIB x.main
theorem ArgS.ok_of {a:ArgS} (h:a.okB=true):a.ok:=by
 simp only [ArgS.okB,Bool.and_eq_true] at h
 exact ⟨fitIB_ok h.1,fitIB_ok h.2⟩
theorem InsS.ok_of {x:InsS} (h:x.okB=true):x.ok:=by
 simp only [InsS.okB,Bool.and_eq_true,decide_eq_true_eq] at h
 obtain ⟨⟨⟨⟨⟨⟨⟨⟨h1,h2⟩,h3⟩,h4⟩,h5⟩,h6⟩,h7⟩,h8⟩,h9⟩:=h
 exact ⟨fitIB_ok h1,fitIB_ok h2,ArgS.ok_of h3,ArgS.ok_of h4,fitIB_ok h5,fitIB_ok h6,fitIB_ok h7,h8,fun a ha=>ArgS.ok_of (List.all_eq_true.1 h9 a ha)⟩
theorem TermS.ok_of {x:TermS} (h:x.okB=true):x.ok:=by
 simp only [TermS.okB,Bool.and_eq_true] at h
 obtain ⟨⟨⟨⟨⟨h1,h2⟩,h3⟩,h4⟩,h5⟩,h6⟩:=h
 exact ⟨fitIB_ok h1,fitIB_ok h2,ArgS.ok_of h3,ArgS.ok_of h4,fitIB_ok h5,fitIB_ok h6⟩
theorem BlockS.ok_of {x:BlockS} (h:x.okB=true):x.ok:=by
 simp only [BlockS.okB,Bool.and_eq_true,decide_eq_true_eq] at h
 exact ⟨h.1.1,fun a ha=>InsS.ok_of (List.all_eq_true.1 h.1.2 a ha),TermS.ok_of h.2⟩
theorem FuncS.ok_of {x:FuncS} (h:x.okB=true):x.ok:=by
 simp only [FuncS.okB,Bool.and_eq_true,decide_eq_true_eq] at h
 obtain ⟨⟨⟨⟨⟨⟨h1,h2⟩,h3⟩,h4⟩,h5⟩,h6⟩,h7⟩:=h
 exact ⟨fitIB_ok h1,fitIB_ok h2,h3,h4,fun a ha=>fitIB_ok (List.all_eq_true.1 h5 a ha),h6,fun a ha=>BlockS.ok_of (List.all_eq_true.1 h7 a ha)⟩
theorem PartS.ok_of {x:PartS} (h:x.okB=true):x.ok:=by
 simp only [PartS.okB,Bool.and_eq_true,decide_eq_true_eq] at h
 obtain ⟨⟨⟨h1,h2⟩,h3⟩,h4⟩:=h
 exact ⟨fitIB_ok h1,fitIB_ok h2,h3,fun a ha=>by have:=List.all_eq_true.1 h4 a ha;simpa using this⟩
theorem GlobS.ok_of {x:GlobS} (h:x.okB=true):x.ok:=by
 simp only [GlobS.okB,Bool.and_eq_true,decide_eq_true_eq] at h
 obtain ⟨⟨⟨h1,h2⟩,h3⟩,h4⟩:=h
 exact ⟨fitIB_ok h1,fitIB_ok h2,h3,fun a ha=>PartS.ok_of (List.all_eq_true.1 h4 a ha)⟩
theorem ProgS.ok_of {x:ProgS} (h:x.okB=true):x.ok:=by
 simp only [ProgS.okB,Bool.and_eq_true,decide_eq_true_eq] at h
 obtain ⟨⟨⟨⟨⟨h1,h2⟩,h3⟩,h4⟩,h5⟩,h6⟩:=h
 exact ⟨h1,fun a ha=>FuncS.ok_of (List.all_eq_true.1 h2 a ha),h3,fun a ha=>GlobS.ok_of (List.all_eq_true.1 h4 a ha),fitIB_ok h5,fitIB_ok h6⟩
def InsOK (f:FuncS):Prop:=∀ b∈f.blocks,∀ x∈b.ins,x.ok∧x.dst < f.regs∧(pureS x.op=true→0≤x.dst)
theorem right_ins {p:ProgS} (hok:p.ok) (hr:rightP p=true):∀ f∈p.funcs,InsOK f:=by
 intro f hf b hb x hx
 unfold rightP at hr
 simp only [Bool.and_eq_true,decide_eq_true_eq] at hr
 have hrf:=List.all_eq_true.1 hr.2 f hf
 unfold funcOK at hrf
 simp only [Bool.and_eq_true,decide_eq_true_eq] at hrf
 have hb':=List.all_eq_true.1 hrf.2 b hb
 unfold blockOK at hb'
 simp only [Bool.and_eq_true] at hb'
 have hx':=List.all_eq_true.1 hb'.1 x hx
 unfold rightS at hx'
 simp only [Bool.and_eq_true,decide_eq_true_eq] at hx'
 refine ⟨((hok.funcs f hf).blocks b hb).ins x hx,by omega,fun hp=>?_⟩
 have hp:=pure_iff.1 hp
 have ht:=hx'.2
 unfold rightT at ht
 repeat' split at ht
 all_goals first
  | omega
  | (simp only [Bool.and_eq_true,decide_eq_true_eq,beq_iff_eq] at ht;first|exact ht.1|exact ht.1.1|exact ht|omega)
def FoldR (f f':FuncS):Prop:=∃ bl',FoldS f.regs f.blocks bl'∧f'={ f with blocks:=bl' }
def fit12T:TermS:=⟨3,0,⟨2,0⟩,⟨0,0⟩,0,0⟩
def fit12I:InsS:=⟨1,1,⟨-1,3⟩,⟨0,0⟩,0,false,false,0,0,[]⟩
def fit12J:InsS:=⟨5,2,⟨1,0⟩,⟨-1,4⟩,0,false,false,0,0,[]⟩
def fit12K:InsS:=⟨1,2,⟨-1,12⟩,⟨0,0⟩,0,false,false,0,0,[]⟩
def fit12B:List BlockS:=[⟨[fit12I,fit12J],fit12T⟩]
def fit12C:List BlockS:=[⟨[fit12I,fit12K],⟨3,0,⟨-1,12⟩,⟨0,0⟩,0,0⟩⟩]
def fit12F (bl:List BlockS):FuncS:=⟨⟨#[109,97,105,110]⟩,0,0,3,[],bl⟩
def fit12P (bl:List BlockS):ProgS:=⟨[fit12F bl],[],0,0⟩
def psizeL (l:List FuncS):Nat:=(l.map fun f=>fsizeS f.blocks).sum
structure KeepsP (p q:ProgS):Prop where
 ok:q.ok
 light:LightP q
 right:rightP q=true
 main:q.main=p.main
 data:q.data=p.data
 glob:q.globals.length=p.globals.length
 len:q.funcs.length=p.funcs.length
 size:psizeL q.funcs≤psizeL p.funcs
 head:∀ (i:Nat) (f f':FuncS),p.funcs[i]?=some f→q.funcs[i]?=some f'→f'.name=f.name∧f'.params=f.params
 run:∀ (N:Nat) (pub sec:List Int) (fuel:Int),(runS p N pub sec fuel).fin=0→(runS q N pub sec fuel).fin=0∧(runS q N pub sec fuel).exit=(runS p N pub sec fuel).exit∧(runS q N pub sec fuel).out=(runS p N pub sec fuel).out∧(runS q N pub sec fuel).steps≤(runS p N pub sec fuel).steps
 two:∀ (N:Nat) (pub sec pub' sec':List Int) (fuel:Int),(runS p N pub sec fuel).fin=0→(runS p N pub' sec' fuel).fin=0→(runS p N pub sec fuel).leaks=(runS p N pub' sec' fuel).leaks→(runS q N pub sec fuel).leaks=(runS q N pub' sec' fuel).leaks
theorem PassSim.run {p q:ProgS} (h:PassSim p q) (N:Nat) (pub sec:List Int) (fuel:Int) (h0:(runS p N pub sec fuel).fin=0):(runS q N pub sec fuel).fin=0∧(runS q N pub sec fuel).exit=(runS p N pub sec fuel).exit∧(runS q N pub sec fuel).out=(runS p N pub sec fuel).out∧(runS q N pub sec fuel).steps≤(runS p N pub sec fuel).steps:=by
 obtain ⟨l,e,_⟩:=run_sim h N pub sec fuel h0
 rw [e]
 exact ⟨h0,rfl,rfl,Int.le_refl _⟩
theorem plainI_ok {op dst:Int} {a:ArgS} (ho:fitI op) (hd:fitI dst) (ha:a.ok):(plainI op dst a).ok :=
 ⟨ho,hd,ha,⟨fit0,fit0⟩,fit0,fit0,fit0,Nat.zero_le _,fun b hb=>by cases hb⟩
theorem fit2:fitI 2:=⟨by omega,by omega⟩
def InsK (x y:InsS):Prop:=y.ok∧y.args.length≤x.args.length
def BlockK (b c:BlockS):Prop:=c.ok∧c.ins.length=b.ins.length∧∀ y∈c.ins,∃ x∈b.ins,InsK x y
structure FuncK (f f':FuncS):Prop where
 name:f'.name=f.name
 params:f'.params=f.params
 regs:f'.regs=f.regs
 slots:f'.slots=f.slots
 secret:f'.secret=f.secret
 len:f'.blocks.length=f.blocks.length
 at_:∀ (k:Nat) (b':BlockS),f'.blocks[k]?=some b'→∃ b,f.blocks[k]?=some b∧BlockK b b'
theorem FuncK.ok {f f':FuncS} (h:FuncK f f') (hok:f.ok):f'.ok:=by
 refine ⟨by rw [h.params];exact hok.params,by rw [h.regs];exact hok.regs,by rw [h.secret];exact hok.nsec,by rw [h.slots];exact hok.nslots,by rw [h.slots];exact hok.slots,by rw [h.len];exact hok.nblocks,fun b' hb'=>?_⟩
 obtain ⟨k,hk⟩:=List.mem_iff_getElem?.1 hb'
 obtain ⟨b,_,hb⟩:=h.at_ k b' hk
 exact hb.1
theorem FuncK.sizes {f f':FuncS} (h:FuncK f f'):fsizeS f'.blocks=fsizeS f.blocks:=by
 unfold fsizeS
 congr 1
 apply List.ext_getElem?
 intro k
 rw [List.getElem?_map,List.getElem?_map]
 cases hk:f'.blocks[k]? with
 | none =>
  have:f.blocks[k]?=none:=by rw [List.getElem?_eq_none_iff] at hk ⊢;have:=h.len;omega
  rw [this]
 | some b' =>
  obtain ⟨b,hb,hK⟩:=h.at_ k b' hk
  rw [hb]
  simp only [Option.map_some,hK.2.1]
theorem turn_at {R:FuncS→FuncS→Prop} {p q:ProgS} (h:TurnP R p q) {f':FuncS} (hf':f'∈q.funcs):∃ f∈p.funcs,R f f':=by
 obtain ⟨k,hk⟩:=List.mem_iff_getElem?.1 hf'
 have hl:=(List.getElem?_eq_some_iff.1 hk).1
 obtain ⟨f,hf⟩:∃ f,p.funcs[k]?=some f:=⟨_,List.getElem?_eq_getElem (by have:=h.len;omega)⟩
 exact ⟨f,List.mem_of_getElem? hf,h.rel k f f' hf hk⟩
theorem turn_size {R:FuncS→FuncS→Prop} {p q:ProgS} (h:TurnP R p q) (hR:∀ f f',f∈p.funcs→R f f'→fsizeS f'.blocks=fsizeS f.blocks):psizeL q.funcs=psizeL p.funcs:=by
 unfold psizeL
 congr 1
 apply List.ext_getElem?
 intro k
 rw [List.getElem?_map,List.getElem?_map]
 cases hk:q.funcs[k]? with
 | none =>
  have:p.funcs[k]?=none:=by rw [List.getElem?_eq_none_iff] at hk ⊢;have:=h.len;omega
  rw [this]
 | some f' =>
  have hl:=(List.getElem?_eq_some_iff.1 hk).1
  obtain ⟨f,hf⟩:∃ f,p.funcs[k]?=some f:=⟨_,List.getElem?_eq_getElem (by have:=h.len;omega)⟩
  rw [hf]
  simp only [Option.map_some,hR f f' (List.mem_of_getElem? hf) (h.rel k f f' hf hk)]
theorem keeps_of {R:FuncS→FuncS→Prop} {p q:ProgS} (h:TurnP R p q) (hok:p.ok) (hl:LightP p) (hS:PassSim p q) (hr:rightP q=true) (hK:∀ f f',f∈p.funcs→R f f'→FuncK f f'):KeepsP p q:=by
 have hat:∀ f'∈q.funcs,∃ f∈p.funcs,FuncK f f':=fun f' hf'=>by
  obtain ⟨f,hf,hR⟩:=turn_at h hf'
  exact ⟨f,hf,hK f f' hf hR⟩
 refine ⟨⟨by rw [h.len];exact hok.nfuncs,fun f' hf'=>?_,by rw [h.glob];exact hok.nglobs,by rw [h.glob];exact hok.globs,by rw [h.data];exact hok.data,by rw [h.main];exact hok.main⟩,⟨by rw [h.len];exact hl.nf,by rw [h.glob];exact hl.ng,by rw [h.glob];exact hl.np,fun f' hf'=>?_⟩,hr,h.main,h.data,by rw [h.glob],h.len,Nat.le_of_eq (turn_size h fun f f' hf hR=>(hK f f' hf hR).sizes),fun i f f' hf hf'=>?_,hS.run,fun N a b c d fuel=>run_two hS N a b c d fuel⟩
 ·obtain ⟨f,hf,hk⟩:=hat f' hf'
  exact hk.ok (hok.funcs f hf)
 ·obtain ⟨f,hf,hk⟩:=hat f' hf'
  obtain ⟨h1,h2,h3⟩:=hl.f f hf
  refine ⟨by rw [hk.regs];exact h1,by rw [hk.slots];exact h2,fun b' hb'=>?_⟩
  obtain ⟨k,hkb⟩:=List.mem_iff_getElem?.1 hb'
  obtain ⟨b,hb,hB⟩:=hk.at_ k b' hkb
  obtain ⟨g1,g2⟩:=h3 b (List.mem_of_getElem? hb)
  refine ⟨by rw [hB.2.1];exact g1,fun y hy=>?_⟩
  obtain ⟨x,hx,hX⟩:=hB.2.2 y hy
  exact Nat.le_trans hX.2 (g2 x hx)
 ·have:=hK f f' (List.mem_of_getElem? hf) (h.rel i f f' hf hf')
  exact ⟨this.name,this.params⟩
end Go.Proofs.YtjhloakacicdiaaDoor
