/-
  What the functions that the law reaches compute,told by plain data;it holds of programs that pass the check of right form and are light.
-/
import Derived.Test.YtjhloakacicdiaaDoorR12
import Derived.Test.YtjhloakacicdiaaDoorR13
import Derived.Test.YtjhloakacicdiaaDoorR14
import Derived.Test.YtjhloakacicdiaaDoorR3
import Derived.Test.YtjhloakacicdiaaDoorR9
import Derived.Test.YtjhloakacicdiaaDoorS2
set_option linter.unusedVariables false
set_option linter.unusedSimpArgs false
namespace Go.Proofs.YtjhloakacicdiaaDoor
open Go.AH
def callK (p:ProgS) (N:Nat):Nat→RunS→Int→List Int→Int × RunS
 | 0,s,_,_=>(0,s)
 | d+1,s,n,args =>
  if 100 < s.deep+1 then (0,stopS { s with deep:=s.deep+1 } 45) else
  match p.funcs[n.toNat]? with
  | none=>(0,s)
  | some f =>
   ((blocksS (insS p (callsS p (callK p N d)) (rowAt s.sp f.slots f.slots.length)) f N 0 (spDone s f) (regsS f args)).1,
     { (blocksS (insS p (callsS p (callK p N d)) (rowAt s.sp f.slots f.slots.length)) f N 0 (spDone s f) (regsS f args)).2.1 with sp:=s.sp,deep:=(blocksS (insS p (callsS p (callK p N d)) (rowAt s.sp f.slots f.slots.length)) f N 0 (spDone s f) (regsS f args)).2.1.deep - 1 })
structure RunP (p:ProgS):Prop where
 ok:p.ok
 right:rightP p=true
 nf:p.funcs.length≤1000000
 regs:∀ f∈p.funcs,f.regs≤1000000
 nsl:∀ f∈p.funcs,f.slots.length≤4
 slots:∀ f∈p.funcs,∀ z∈f.slots,0≤z∧z≤1000
 nin:∀ f∈p.funcs,∀ b∈f.blocks,b.ins.length≤1000000000
 nargs:∀ f∈p.funcs,∀ b∈f.blocks,∀ x∈b.ins,x.args.length≤1000000
theorem RunP.func {p:ProgS} (h:RunP p) {f:FuncS} (hf:f∈p.funcs):funcOK p f=true:=by
 have:=h.right
 unfold rightP at this
 simp only [Bool.and_eq_true] at this
 exact List.all_eq_true.1 this.2 f hf
theorem loadS_kept (s:RunS) (at_:Int) (n:Nat) (sg:Bool):Kept s (loadS s at_ n sg).2:=by
 unfold loadS
 split
 ·exact leakS_kept _ _
 ·split
  ·exact leakS_kept _ _
  ·exact (leakS_kept _ _).trans (stopS_kept _ _ (by decide))
theorem storeS_kept (s:RunS) (at_:Int) (n:Nat) (v:Int):Kept s (storeS s at_ n v):=by
 unfold storeS
 split
 ·exact ⟨rfl,by show s.steps≤s.steps;omega,.inl ⟨rfl,id⟩,rfl,rfl,storeV_len _ _ _ _⟩
 ·split
  ·exact ⟨rfl,by show s.steps≤s.steps;omega,.inl ⟨rfl,id⟩,rfl,storeV_len _ _ _ _,rfl⟩
  ·exact (leakS_kept _ _).trans (stopS_kept _ _ (by decide))
theorem insS_kept {p:ProgS} {cl:RunS→List Int→InsS→Int × RunS} {at_:List Int} {s:RunS} {regs:List Int} {x:InsS} (hop:1≤x.op∧x.op≤30) (hc:(stepS s).fin=0→(x.op=28∨x.op=29)→Kept (stepS s) (cl (stepS s) regs x).2):Kept s (insS p cl at_ s regs x).1:=by
 have h1:=stepS_kept s
 refine insS_elim (Q:=fun r=>Kept s r.1) (fun _=>h1) (fun _ _=>h1) (fun _ _=>?_) (fun _ _=>h1) (fun _ _=>h1) (fun _ _=>h1) (fun _ _=>h1) (fun hf _=>h1.trans (loadS_kept _ _ _ _)) (fun hf _=>h1.trans (storeS_kept _ _ _ _)) (fun hf _=>?_) (fun hf q1 q2 q3 q4=>h1.trans (hc hf (op_call hop q1 q2 q3 q4)))
 ·dsimp only
  split
  ·exact h1
  ·exact h1.trans (stopS_kept _ _ (by decide))
 ·dsimp only
  split
  ·exact h1.trans (stopS_kept _ _ (by decide))
  ·exact h1.trans ⟨rfl,by show (stepS s).steps≤(stepS s).steps;omega,.inl ⟨rfl,id⟩,rfl,rfl,rfl⟩
structure CallRes (s:RunS) (r:Int × RunS):Prop where
 inv:r.2.inv
 fit:fitI r.1
 kept:Kept s r.2
theorem fit0R:fitI 0:=⟨by omega,by omega⟩
theorem callsS_res {p:ProgS} {cl:RunS→Int→List Int→Int × RunS} {s:RunS} {regs:List Int} {x:InsS} (h:s.inv) (hr:(s.leaks.length:Int)+1≤s.steps) (h28:x.op≠29→paramsAt p x.ref=some (x.args.length:Int))
 (hcl:∀ s' n args,(s'=s∨∃ q,s'=leakS s q)→paramsAt p n=some (args.length:Int)→(∃ k,args=accV regs x.args k)→CallRes s' (cl s' n args)):CallRes s (callsS p cl s regs x):=by
 unfold callsS
 split
 ·have hl:=leakS_inv h hr ⟨4,argS regs x.a,0⟩
  split
  ·exact ⟨stopS_inv hl _,fit0R,(leakS_kept _ _).trans (stopS_kept _ _ (by decide))⟩
  ·split
   ·rename_i hp
    obtain ⟨g1,g2,g3⟩:=hcl (leakS s ⟨4,argS regs x.a,0⟩) (funcAt (argS regs x.a)) (accV regs x.args x.args.length) (.inr ⟨_,rfl⟩) (by rw [accV_len];exact hp) ⟨_,rfl⟩
    exact ⟨g1,g2,(leakS_kept _ _).trans g3⟩
   ·exact ⟨stopS_inv hl _,fit0R,(leakS_kept _ _).trans (stopS_kept _ _ (by decide))⟩
 ·rename_i hop
  exact hcl s x.ref _ (.inl rfl) (by rw [accV_len];exact h28 hop) ⟨_,rfl⟩
theorem accV_fit {regs:List Int} {l:List ArgS} (hr:∀ r∈regs,fitI r) (hl:∀ a∈l,a.ok):∀ k,∀ v∈accV regs l k,fitI v:=by
 intro k
 induction k with
 | zero=>intro v hv;cases hv
 | succ k ih =>
  intro v hv
  rw [accV,List.mem_cons] at hv
  rcases hv with rfl|hv
  ·refine fit_arg hr ?_
   rw [List.getD_eq_getElem?_getD]
   cases h:l[k]? with
   | none=>exact ⟨fit0R,fit0R⟩
   | some a=>exact hl a (List.mem_of_getElem? h)
  ·exact ih v hv
structure InsRes (f:FuncS) (okS:RunS→Prop) (ins:RunS→List Int→InsS→RunS × List Int) (x:InsS):Prop where
 good:∀ s regs,Good f s regs→okS s→Good f (ins s regs x).1 (ins s regs x).2
 kept:∀ s regs,Good f s regs→okS s→Kept s (ins s regs x).1
theorem runIns_res {f:FuncS} {okS:RunS→Prop} (hok:∀ s s',okS s→Kept s s'→okS s') {ins:RunS→List Int→InsS→RunS × List Int}:∀ {l:List InsS},(∀ x∈l,InsRes f okS ins x)→∀ {s:RunS} {regs:List Int},Good f s regs→okS s→Good f (runIns ins l s regs).1 (runIns ins l s regs).2∧Kept s (runIns ins l s regs).1:=by
 intro l
 induction l with
 | nil=>intro _ s regs hg _;exact ⟨hg,Kept.refl _⟩
 | cons x l ih =>
  intro hx s regs hg ho
  have h1:=hx x (by simp)
  have k1:=h1.kept s regs hg ho
  rw [runIns]
  split
  ·obtain ⟨g1,g2⟩:=ih (fun y hy=>hx y (by simp [hy])) (h1.good s regs hg ho) (hok _ _ ho k1)
   exact ⟨g1,k1.trans g2⟩
  ·exact ⟨h1.good s regs hg ho,k1⟩
theorem blocksS_res {f:FuncS} {okS:RunS→Prop} (hok:∀ s s',okS s→Kept s s'→okS s') {ins:RunS→List Int→InsS→RunS × List Int} (hins:∀ b∈f.blocks,∀ x∈b.ins,InsRes f okS ins x) (hterm:∀ b∈f.blocks,b.term.ok):∀ {k:Nat} {bi:Int} {s:RunS} {regs:List Int},Good f s regs→okS s →
 (blocksS ins f k bi s regs).2.1.inv∧fitI (blocksS ins f k bi s regs).1∧Kept s (blocksS ins f k bi s regs).2.1:=by
 intro k
 induction k with
 | zero=>intro bi s regs hg _;exact ⟨hg.inv,fit0R,Kept.refl _⟩
 | succ k ih =>
  intro bi s regs hg ho
  rw [blocksS]
  split
  ·split
   ·exact ⟨hg.inv,fit0R,Kept.refl _⟩
   ·rename_i b hb
    have hbm:=List.mem_of_getElem? hb
    obtain ⟨g1,k1⟩:=runIns_res hok (hins b hbm) hg ho
    have o1:=hok _ _ ho k1
    split
    ·have i2:=stepS_inv g1.inv
     have k2:=k1.trans (stepS_kept (runIns ins b.ins s regs).1)
     have o2:=hok _ _ ho k2
     split
     ·rename_i hf
      have hr:=(stepS_room g1.inv hf).1
      split
      ·exact ⟨i2,fit_arg g1.fit (hterm b hbm).a,k2⟩
      ·split
       ·obtain ⟨a1,a2,a3⟩:=ih (bi:=b.term.goto) ⟨i2,g1.len,g1.fit⟩ o2
        exact ⟨a1,a2,k2.trans a3⟩
       ·split
        ·have k3:=k2.trans (leakS_kept _ (leakB true))
         obtain ⟨a1,a2,a3⟩:=ih (bi:=b.term.goto) ⟨leakS_inv i2 hr _,g1.len,g1.fit⟩ (hok _ _ ho k3)
         exact ⟨a1,a2,k3.trans a3⟩
        ·have k3:=k2.trans (leakS_kept _ (leakB false))
         obtain ⟨a1,a2,a3⟩:=ih (bi:=b.term.els) ⟨leakS_inv i2 hr _,g1.len,g1.fit⟩ (hok _ _ ho k3)
         exact ⟨a1,a2,k3.trans a3⟩
     ·exact ⟨i2,fit0R,k2⟩
    ·exact ⟨g1.inv,fit0R,k1⟩
  ·exact ⟨hg.inv,fit0R,Kept.refl _⟩
theorem slotSz_le {z:Int} (h:0≤z∧z≤1000):0≤slotSz z∧slotSz z≤1008:=by
 obtain ⟨n,rfl⟩:∃ n:Nat,z=n:=⟨z.toNat,by omega⟩
 have hn:n < 1001:=by omega
 have key:∀ n:Fin 1001,0≤slotSz (n.val:Int)∧slotSz (n.val:Int)≤1008:=by decide +kernel
 exact key ⟨n,hn⟩
theorem spAt_le {sp:Int} {sl:List Int} (h0:0≤sp - 1008 * sl.length) (h1:sp≤134217728) (hz:∀ z∈sl,0≤z∧z≤1000):∀ i,i≤sl.length→sp - 1008 * i≤spAt sp sl i∧spAt sp sl i≤sp:=by
 intro i
 induction i with
 | zero=>intro _;simp [spAt]
 | succ i ih =>
  intro hi
  have h2:=ih (by omega)
  have h3:0≤slotSz (sl.getD i 0)∧slotSz (sl.getD i 0)≤1008:=by
   refine slotSz_le (hz _ ?_)
   rw [List.getD_eq_getElem?_getD,List.getElem?_eq_getElem (by omega)]
   exact List.getElem_mem _
  rw [spAt,wrap64_fit (by omega) (by omega)]
  omega
theorem regsS_fit {f:FuncS} {args:List Int} (h:∀ a∈args,fitI a):∀ r∈regsS f args,fitI r:=by
 intro r hr
 unfold regsS at hr
 rw [List.mem_append] at hr
 rcases hr with hr|hr
 ·exact h r (by simpa using hr)
 ·rw [List.eq_of_mem_replicate hr];exact fit0R
structure CallOK (N d:Nat) (s:RunS):Prop where
 inv:s.inv
 fin:s.fin=0
 stack:s.stack.length=416000
 lo:134217728 - 4032 * s.deep≤s.sp
 hi:s.sp≤134217728
 depth:101≤s.deep+d
 deep:s.deep≤100
 steps:s.fuel - s.steps < N
theorem call_all (B:Hp) (hd:∀ i b,B.m i=some b→i < B.n) (p:ProgS) (hR:RunP p) (pb:Nat) (pe:TypeId) (P1:Option Addr) (d1:Nat) (P2:Option Addr) (d2:Nat) (hp:ProgAt B pb p pe P1 d1 P2 d2) (N:Nat):∀ d,∀ s n args,CallOK N d s→paramsAt p n=some (args.length:Int)→(∀ a∈args,fitI a) →
 CallTE B pb (callK p N d) s n args∧CallRes s (callK p N d s n args):=by
 have hpb:=hd _ _ hp.m
 intro d
 induction d with
 | zero=>intro s n args hs _ _;have:=hs.depth;have:=hs.deep;omega
 | succ d ih =>
  intro s n args hs hpar hfit
  have hdl:=hs.deep
  have hd0:=hs.inv.deep
  by_cases hov:100 < s.deep+1
  ·have e:callK p N (d+1) s n args=(0,stopS { s with deep:=s.deep+1 } 45):=by rw [callK,if_pos hov]
   unfold CallTE
   rw [e]
   refine ⟨callover_te B pb hpb s ⟨hov,by omega⟩ n args,⟨stopS_inv ?_ _,fit0R,?_⟩⟩
   ·obtain ⟨a1,a2,a3,a4,a5,a6,a7⟩:=hs.inv
    exact ⟨a1,a2,a3,a4,a5,a6,⟨by show 0≤s.deep+1;omega,by show s.deep+1≤101;omega⟩⟩
   ·have hf:stopS { s with deep:=s.deep+1 } 45={ s with deep:=s.deep+1,fin:=45 }:=by unfold stopS;rw [if_pos (show ({ s with deep:=s.deep+1 }:RunS).fin=0 from hs.fin)]
    rw [hf]
    exact ⟨rfl,by show s.steps≤s.steps;omega,.inr ⟨hs.fin,by show ¬ (45:Int)=0;omega,rfl⟩,rfl,rfl,rfl⟩
  ·
   have hpar':=hpar
   unfold paramsAt at hpar'
   by_cases hn0:0≤n
   case neg=>rw [if_neg hn0] at hpar';cases hpar'
   rw [if_pos hn0] at hpar'
   cases hfn:p.funcs[n.toNat]? with
   | none=>rw [hfn] at hpar';cases hpar'
   | some f =>
    rw [hfn] at hpar'
    simp only [Option.map_some,Option.some.injEq] at hpar'
    have hfm:=List.mem_of_getElem? hfn
    have hfo:=hR.func hfm
    unfold funcOK at hfo
    simp only [Bool.and_eq_true,decide_eq_true_eq] at hfo
    obtain ⟨⟨⟨⟨⟨f1,f2⟩,f3⟩,f4⟩,f5⟩,f6⟩:=hfo
    obtain ⟨m,hm⟩:∃ m:Nat,f.regs=m:=⟨f.regs.toNat,by omega⟩
    have hrg:=hR.regs f hfm
    have hfok:=hR.ok.funcs f hfm
    obtain ⟨gb,go,fcs,fe,hP1,hF,hFl,F1,c1,F2,c2,F3,c3,hFv,hS,hBs⟩:=hp.fs.get _ _ hfn
    have hFn:=hd _ _ hF
    have hsl4:=hR.nsl f hfm
    have hlo:=hs.lo
    have hhi:=hs.hi
    have hsp:=spAt_le (sp:=s.sp) (sl:=f.slots) (by omega) hhi (hR.slots f hfm) f.slots.length (Nat.le_refl _)
    have hstk:=hs.stack
    have e:callK p N (d+1) s n args=((blocksS (insS p (callsS p (callK p N d)) (rowAt s.sp f.slots f.slots.length)) f N 0 (spDone s f) (regsS f args)).1,{ (blocksS (insS p (callsS p (callK p N d)) (rowAt s.sp f.slots f.slots.length)) f N 0 (spDone s f) (regsS f args)).2.1 with sp:=s.sp,deep:=(blocksS (insS p (callsS p (callK p N d)) (rowAt s.sp f.slots f.slots.length)) f N 0 (spDone s f) (regsS f args)).2.1.deep - 1 }):=by
     rw [callK,if_neg hov,hfn]
    have hgood:Good f (spDone s f) (regsS f args):=by
     obtain ⟨a1,a2,a3,a4,a5,a6,a7⟩:=hs.inv
     exact ⟨⟨a1,a2,a3,a4,a5,a6,⟨by show 0≤s.deep+1;omega,by show s.deep+1≤101;omega⟩⟩,by rw [regsS_len hm (by omega)];exact hm.symm,regsS_fit hfit⟩
    let okS:RunS→Prop:=fun t=>(t.fin=0→t.deep=s.deep+1)∧t.sp=spAt s.sp f.slots f.slots.length∧t.stack.length=416000∧t.fuel=s.fuel∧s.steps≤t.steps
    have hok:∀ t t',okS t→Kept t t'→okS t':=by
     rintro t t' ⟨q1,q2,q3,q4,q5⟩ hk
     refine ⟨fun h0=>?_,hk.sp.trans q2,hk.stack.trans q3,hk.fuel.trans q4,Int.le_trans q5 hk.steps⟩
     rcases hk.deep with ⟨k1,k2⟩|⟨_,k2,_⟩
     ·rw [k1];exact q1 (Decidable.byContradiction fun hc=>k2 hc h0)
     ·exact absurd h0 k2
    have ho:okS (spDone s f):=⟨fun _=>rfl,rfl,hstk,rfl,Int.le_refl _⟩
    have hblk:∀ b∈f.blocks,b.ins.all (rightS p f)=true∧endsS f b.term=true:=by
     intro b hb
     have:=List.all_eq_true.1 f6 b hb
     unfold blockOK at this
     simpa [Bool.and_eq_true] using this
    have hx1:∀ b∈f.blocks,∀ x∈b.ins,rightS p f x=true:=fun b hb x hx=>List.all_eq_true.1 (hblk b hb).1 x hx
    have hop:∀ b∈f.blocks,∀ x∈b.ins,1≤x.op∧x.op≤30:=by
     intro b hb x hx
     have:=hx1 b hb x hx
     unfold rightS at this
     simp only [Bool.and_eq_true,decide_eq_true_eq] at this
     obtain ⟨⟨⟨⟨⟨o1,o2⟩,_⟩,_⟩,_⟩,_⟩:=this
     exact ⟨o1,o2⟩
    have hcall:∀ t regs,Good f t regs→okS t→(stepS t).fin=0→∀ b∈f.blocks,∀ x∈b.ins,∀ s' n' args',(s'=stepS t∨∃ q,s'=leakS (stepS t) q)→paramsAt p n'=some (args'.length:Int)→(∃ k,args'=accV regs x.args k)→CallTE B pb (callK p N d) s' n' args'∧CallRes s' (callK p N d s' n' args'):=by
     rintro t regs hg ⟨q1,q2,q3,q4,q5⟩ hft b hb x hx s' n' args' hs' hp' ⟨k,rfl⟩
     have hxo:x.ok:=(hfok.blocks b hb).ins x hx
     have i1:=stepS_inv hg.inv
     have hm1:=stepS_more hft
     have hk1:=stepS_kept t
     have hdp:(stepS t).deep=s.deep+1:=by
      rcases hk1.deep with ⟨k1,_⟩|⟨_,k2,_⟩
      ·rw [k1];exact q1 hm1.2.1
      ·exact absurd hft k2
     have base:CallOK N d (stepS t):=by
      have:=hs.steps
      have:=hs.depth
      have e1:=hk1.sp
      have e2:=hk1.stack
      have e3:=hk1.fuel
      have e4:=hk1.steps
      exact ⟨i1,hft,by omega,by omega,by omega,by omega,by omega,by omega⟩
     refine ih s' n' _ ?_ hp' (accV_fit hg.fit hxo.args k)
     rcases hs' with rfl|⟨q,rfl⟩
     ·exact base
     ·exact ⟨leakS_inv i1 (stepS_room hg.inv hft).1 q,base.fin,base.stack,base.lo,base.hi,base.depth,base.deep,base.steps⟩
    have hcalls:∀ t regs,Good f t regs→okS t→(stepS t).fin=0→∀ b∈f.blocks,∀ x∈b.ins,x.op=28∨x.op=29→CallRes (stepS t) (callsS p (callK p N d) (stepS t) regs x):=by
     intro t regs hg hot hft b hb x hx hopc
     refine callsS_res (stepS_inv hg.inv) (stepS_room hg.inv hft).1 (fun h29=>?_) fun s' n' args' h1 h2 h3=>(hcall t regs hg hot hft b hb x hx s' n' args' h1 h2 h3).2
     have:=hx1 b hb x hx
     unfold rightS at this
     simp only [Bool.and_eq_true,decide_eq_true_eq] at this
     have ht:=this.2
     unfold rightT at ht
     rw [if_neg (by omega),if_neg (by omega),if_neg (by omega),if_neg (by omega),if_neg (by omega),if_pos (by omega)] at ht
     simpa using ht
    have hres:∀ b∈f.blocks,∀ x∈b.ins,InsRes f okS (insS p (callsS p (callK p N d)) (rowAt s.sp f.slots f.slots.length)) x:=by
     intro b hb x hx
     have hxo:x.ok:=(hfok.blocks b hb).ins x hx
     refine ⟨fun t regs hg hot=>⟨insS_inv hg.inv (fun hft hc=>(hcalls t regs hg hot hft b hb x hx hc).inv) (hop b hb x hx),by rw [insS_len];exact hg.len,insS_fit hg.fit hxo (hop b hb x hx) (fun hft hc=>(hcalls t regs hg hot hft b hb x hx hc).fit) fun h25=>?_⟩,fun t regs hg hot=>insS_kept (hop b hb x hx) fun hft hc=>(hcalls t regs hg hot hft b hb x hx hc).kept⟩
     have:=hx1 b hb x hx
     unfold rightS at this
     simp only [Bool.and_eq_true,decide_eq_true_eq] at this
     have ht:=this.2
     unfold rightT at ht
     rw [if_neg (by omega),if_neg (by omega),if_neg (by omega),if_neg (by omega),if_pos h25] at ht
     simp only [Bool.and_eq_true,decide_eq_true_eq] at ht
     have:=hR.nf
     omega
    have hte:∀ b∈f.blocks,∀ x∈b.ins,InsTE B pb gb (go+n.toNat * 6) (rowAt s.sp f.slots f.slots.length) f okS (insS p (callsS p (callK p N d)) (rowAt s.sp f.slots f.slots.length)) x:=by
     intro b hb x hx
     have hxo:x.ok:=(hfok.blocks b hb).ins x hx
     refine ⟨fun t regs hg hot xb xo xcs xe A c hX hXl hXv hXa=>?_,(hres b hb x hx).good,(hres b hb x hx).kept⟩
     have hlen:=hg.len
     refine ins_te B hd p pb pe P1 d1 P2 d2 hp hR.nf gb (go+n.toNat * 6) hFn f (by omega) t hg.inv regs _ hg.len hg.fit (rowAt_len _ _ _) x hxo (hx1 b hb x hx) xb xo xcs xe A c hX hXl hXv _ fun hft hc=>?_
     have i1:=stepS_inv hg.inv
     have hl1:=i1.leaks
     have hl2:=i1.steps
     have hl3:=i1.fuel
     exact calls_te B hd p pb pe P1 d1 P2 d2 hp gb (go+n.toNat * 6) hFn f (stepS t) (by omega) regs _ (by omega) x (hx1 b hb x hx) hc (hR.nargs f hfm b hb x hx) xb xo xcs xe A c hX hXl hXv hXa _ fun s' n' args' h1 h2 h3=>(hcall t regs hg hot hft b hb x hx s' n' args' h1 h2 h3).1
    have hbt:=blocks_te B hd pb hpb gb (go+n.toNat * 6) f fcs fe F1 c1 F2 c2 F3 c3 hF hFn hFv (by omega) hBs (rowAt s.sp f.slots f.slots.length) okS hok _ hte (fun b hb=>(hblk b hb).2) (hR.nin f hfm) f5 N (spDone s f) (regsS f args) hgood ho hs.steps
    obtain ⟨r1,r2,r3⟩:=blocksS_res hok hres (fun b hb=>(hfok.blocks b hb).term) (k:=N) (bi:=0) hgood ho
    unfold CallTE
    rw [e]
    generalize blocksS (insS p (callsS p (callK p N d)) (rowAt s.sp f.slots f.slots.length)) f N 0 (spDone s f) (regsS f args)=r at *
    have hdr:r.2.1.deep=s.deep+1∨(¬ r.2.1.fin=0∧r.2.1.deep=s.deep+2):=by
     rcases r3.deep with ⟨k1,_⟩|⟨_,k2,k3⟩
     ·exact .inl k1
     ·exact .inr ⟨k2,by rw [k3];show s.deep+1+1=_;omega⟩
    have hql:n.toNat < p.funcs.length:=(List.getElem?_eq_some_iff.1 hfn).1
    refine ⟨call_te B hd p pb hpb pe P1 d1 P2 d2 hp s ⟨hd0.1,by omega⟩ n.toNat n (Int.toNat_of_nonneg hn0).symm hql args gb go hP1 f fcs fe F1 c1 F2 c2 F3 c3 hF hFn hFv hS (by omega) m hm (by omega) (by omega) r (by omega) (by omega) hbt (by omega),⟨?_,r2,?_⟩⟩
    ·obtain ⟨a1,a2,a3,a4,a5,a6,a7⟩:=r1
     exact ⟨a1,a2,a3,a4,a5,a6,⟨by show 0≤r.2.1.deep - 1;omega,by show r.2.1.deep - 1≤101;omega⟩⟩
    ·refine ⟨r3.fuel,r3.steps,?_,rfl,r3.stack,r3.data⟩
     rcases hdr with h|⟨h,h'⟩
     ·exact .inl ⟨by show r.2.1.deep - 1=_;omega,fun hc=>absurd hs.fin hc⟩
     ·exact .inr ⟨hs.fin,h,by show r.2.1.deep - 1=_;omega⟩
attribute [local irreducible] W RS
def putB:List Int→Nat→List Int→List Int
 | b,_,[]=>b
 | b,o,v::l=>putB (b.set o v) (o+1) l
theorem putB_len:∀ (l:List Int) (b:List Int) (o:Nat),(putB b o l).length=b.length:=by
 intro l
 induction l with
 | nil=>intro b o;rfl
 | cons v l ih=>intro b o;rw [putB,ih,List.length_set]
theorem putB_bytes:∀ (l:List Int) (b:List Int) (o:Nat),setL (bytesC b) o (bytesC l)=bytesC (putB b o l):=by
 intro l
 induction l with
 | nil=>intro b o;rw [show bytesC ([]:List Int)=[] from rfl,setL_nil];rfl
 | cons v l ih =>
  intro b o
  rw [show bytesC (v::l)=.int .u8 v::bytesC l from rfl,setL_cons,putB,← ih]
  congr 1
  unfold bytesC;rw [List.map_set]
structure DatS where
 b:List Int
 pub:List Int
 sec:List Int
def partLen (x:PartS):Int:=if x.kind=0 then x.data.length else if x.kind=1 then 8 else x.n
def partD (a:Int) (d:DatS) (x:PartS):DatS :=
 if x.kind=0 then { d with b:=putB d.b a.toNat x.data }
 else if x.kind=1 then { d with b:=storeV d.b a.toNat (4194304+16 * x.n) 8 }
 else if x.kind=2 then { d with b:=putB d.b a.toNat (d.pub.take x.n.toNat),pub:=d.pub.drop x.n.toNat }
 else { d with b:=putB d.b a.toNat (d.sec.take x.n.toNat),sec:=d.sec.drop x.n.toNat }
def partsD:List PartS→Int→DatS→DatS
 | [],_,d=>d
 | x::l,a,d=>partsD l (a+partLen x) (partD a d x)
def globsD:List GlobS→DatS→DatS
 | [],d=>d
 | g::l,d=>globsD l (partsD g.parts g.place d)
def dataS (p:ProgS) (pub sec:List Int):List Int:=(globsD p.globals ⟨List.replicate p.data.toNat 0,pub,sec⟩).b
theorem bytes_at {h:Hp} {b off:Nat} {l:List Int} (s:SlAt h (some ⟨b,off,none⟩) 1 l byteR) (hne:0 < l.length):∃ ds e,h.m b=some ⟨⟨ds⟩,e⟩∧off+l.length≤ds.length∧∀ k,k≤l.length→takeV off k ds=bytesC (l.take k):=by
 obtain ⟨b',off',ds,e,he,hb,hl,hv⟩:=s.get (l.length - 1) _ (List.getElem?_eq_getElem (by omega))
 injection he with he
 injection he with e1 e2
 subst e1;subst e2
 refine ⟨ds,e,hb,by omega,fun k hk=>?_⟩
 rw [takeV_eq]
 apply List.ext_getElem?
 intro i
 unfold bytesC
 rw [List.getElem?_take,List.getElem?_map,List.getElem?_take]
 by_cases hi:i < k
 ·rw [if_pos hi,if_pos hi,List.getElem?_drop]
  obtain ⟨b2,off2,ds2,e2,he2,hb2,hl2,hv2⟩:=s.get i _ (List.getElem?_eq_getElem (by omega))
  injection he2 with he2
  injection he2 with e1 e2
  subst e1;subst e2
  rw [hb] at hb2
  injection hb2 with hb2
  injection hb2 with hb3
  injection hb3 with hb3
  subst hb3
  have:=take_nth (j:=0) hv2 (v:=.int .u8 l[i]) rfl
  rw [Nat.mul_one,Nat.add_zero] at this
  rw [this,List.getElem?_eq_getElem (by omega)];rfl
 ·rw [if_neg hi,if_neg hi];rfl
theorem SlAt.bytes_drop {h:Hp} {b off:Nat} {l:List Int} (s:SlAt h (some ⟨b,off,none⟩) 1 l byteR) (k:Nat):SlAt h (some ⟨b,off+k * 1,none⟩) 1 (l.drop k) byteR:=by
 refine ⟨fun i x hx=>?_⟩
 rw [List.getElem?_drop] at hx
 obtain ⟨b',off',ds,e,he,hb,hl,hv⟩:=s.get _ _ hx
 injection he with he
 injection he with e1 e2
 subst e1;subst e2
 refine ⟨b,off+k * 1,ds,e,rfl,hb,by omega,?_⟩
 rw [show off+k * 1+i * 1=off+(k+i) * 1 by omega];exact hv
structure InRow (h:Hp) (A:Option Addr) (n c:Nat) (l:List Int):Prop where
 at_:SlAt h A 1 l byteR
 len:n=l.length
 le:n≤c
 cap:c < capMark
 nil:A=none→c=0
 spot:∀ a,A=some a→a.spot=none
structure DX where
 b:List Int
 pub:List Int
 sec:List Int
 A1:Option Addr
 n1:Nat
 c1:Nat
 A2:Option Addr
 n2:Nat
 c2:Nat
def DX.d (x:DX):DatS:=⟨x.b,x.pub,x.sec⟩
structure DX.ok (h:Hp) (n:Nat) (x:DX):Prop where
 b:x.b.length=n
 pub:InRow h x.A1 x.n1 x.c1 x.pub
 sec:InRow h x.A2 x.n2 x.c2 x.sec
def dxL (x:DX) (_:Nat→Nat):List (Nat × Option Blk):=[(0,some ⟨⟨[.slice x.A1 x.n1 x.c1,.slice x.A2 x.n2 x.c2]⟩,30⟩),(1,some ⟨⟨bytesC x.b⟩,5⟩)]
theorem bytes_one (l:List Int):(bytesC l).all (·.oneCell')=true:=by
 unfold bytesC;rw [List.all_map,List.all_eq_true];intro _ _;rfl
theorem InRow.drop {h:Hp} {b off n c k:Nat} {l:List Int} (r:InRow h (some ⟨b,off,none⟩) n c l) (hk:k≤n):InRow h (some ⟨b,if c=k then off else off+k * 1,none⟩) (n - k) (c - k) (l.drop k):=by
 have h1:=r.len
 have h2:=r.le
 have h3:=r.cap
 refine ⟨?_,by rw [List.length_drop];omega,by omega,by omega,(fun h=>by cases h),fun a ha=>by injection ha with ha;rw [← ha]⟩
 split
 ·rw [List.drop_eq_nil_of_le (by omega)];exact SlAt.nil
 ·exact r.at_.bytes_drop k
theorem bytes_rep (n:Nat):repL [.int .u8 0] n=bytesC (List.replicate n 0):=by
 rw [repL_one];unfold bytesC;simp
set_option maxHeartbeats 8000000 in
set_option maxRecDepth 100000 in
theorem Data_tf (p:ProgS) (hr:p.globals.all (placedS p)=true) (hnf:p.funcs.length≤1000000) (hgl:p.globals.length≤1000000) (hpl:∀ g∈p.globals,g.parts.length≤1000000) (n:Nat) (hn:p.data=(n:Int)) (hn2:n≤1000000) (pb:Nat) (pe:TypeId) (P1:Option Addr) (d1:Nat) (P2:Option Addr) (d2:Nat) (h:Hp) (hp:ProgAt h pb p pe P1 d1 P2 d2)
 (A1:Option Addr) (n1 c1:Nat) (A2:Option Addr) (n2 c2:Nat) (pub sec:List Int) (hi1:InRow h A1 n1 c1 pub) (hi2:InRow h A2 n2 c2 sec) :
 TF Tryd.prog 56 ⟨[.pointer (some ⟨pb,0,none⟩),.agg ⟨[.slice A1 n1 c1,.slice A2 n2 c2]⟩]⟩ h (.slice (some ⟨h.n,0,none⟩) n n) (h.push ⟨⟨bytesC (dataS p pub sec)⟩,5⟩):=by
 refine TF.dom fun hd=>?_
 have hpn:=hd _ _ hp.m
 refine TF.ends (fn:=Tryd.f56) (c:=(Tryd.f56.body.getD .skip)) (Q:=RowQ (fun _=>bytesC (dataS p pub sec)) 5 n n h) Tryd.func56 (by kernel_rfl) Tryd.ntmps56 (by kernel_rfl) ?_ (row_end fun v hv=>by unfold bytesC at hv;obtain ⟨_,_,rfl⟩:=List.mem_map.1 hv;simp)
 conv=>arg 2;whnf
 repeat (first|refine Y3g ?_|((with_reducible apply (RS.makeSlice (n:=n) (kx:=.i64) (ky:=.i64) (cs:=bytesC (List.replicate n 0))));(iterate 2 exact rfl);exact (show _=some (Value.int IntKind.i64 (n:Int)) from congrArg (fun z=>some (Value.int IntKind.i64 z)) hn);exact (show _=some (Value.int IntKind.i64 (n:Int)) from congrArg (fun z=>some (Value.int IntKind.i64 z)) hn);(iterate 2 exact rfl);(constructor<;>omega);exact bytes_rep n)|refine Y1o ?_|refine Y0 ?_|refine Y1e ?_|refine Y1 ?_)
 refine W.loop (X:=Nat × DX) (fun π y=>[(3,.pointer (some ⟨π 0,0,none⟩)),(5,.slice (some ⟨π 1,0,none⟩) n n),(21,.slice P2 p.globals.length d2),(22,.int .i64 p.globals.length),(23,.int .i64 y.1)]) (fun _=>h) (fun π y=>dxL y.2 π) (fun y=>y.1≤p.globals.length∧y.2.ok h n∧globsD (p.globals.drop y.1) y.2.d=globsD p.globals ⟨List.replicate n 0,pub,sec⟩) (fun y=>p.globals.length - y.1) [0,1] (0,⟨List.replicate n 0,pub,sec,A1,n1,c1,A2,n2,c2⟩) ⟨Nat.zero_le _,⟨List.length_replicate,hi1,hi2⟩,rfl⟩ (by (refine FitL.mk ?_ ?_ ?_ ?_<;>(repeat' (first|exact trivial|exact rfl|(refine AllB.opt rfl rfl ?_)|apply And.intro));done)) ?_
 rintro π ⟨gi,dx⟩ ⟨hgi,hdx,hD⟩
 dsimp only at hgi hdx hD ⊢
 by_cases hlt:gi < p.globals.length
 ·obtain ⟨g,hg⟩:∃ g,p.globals[gi]?=some g:=⟨_,List.getElem?_eq_getElem hlt⟩
  obtain ⟨gb,go,gcs,ge,rfl,hG,hGl,GA,gc,hGv,hGp⟩:=hp.gs.get _ _ hg
  have hGn:=hd _ _ hG
  have hgm:=List.mem_of_getElem? hg
  have hgpl:=hpl g hgm
  have hpla:=List.all_eq_true.1 hr g hgm
  unfold placedS at hpla
  simp only [Bool.and_eq_true,decide_eq_true_eq] at hpla
  obtain ⟨⟨⟨⟨g1,g2⟩,g3⟩,g4⟩,g5⟩:=hpla
  rw [drop_get hg,globsD] at hD
  repeat (first|refine Ya ?_|refine Y1t ?_|((with_reducible first|apply RS.move|apply RS.assign|apply RS.lenSl|apply RS.fieldAddr);iterate 3 exact rfl)|refine Y3 ?_|refine Y7 ?_|refine Y4 ?_|refine Yf ?_|refine Y0 ?_|refine Y1y ?_|refine Y1 ?_|refine Y5 ?_)
  refine W.loop (X:=Nat × Int × Int × DX) (fun π y=>[(3,.pointer (some ⟨π 0,0,none⟩)),(5,.slice (some ⟨π 1,0,none⟩) n n),(21,.slice (some ⟨gb,go,none⟩) p.globals.length d2),(22,.int .i64 p.globals.length),(23,.int .i64 gi),(8,.int .i64 y.2.1),(30,.slice GA g.parts.length gc),(31,.int .i64 g.parts.length),(32,.int .i64 y.1)]) (fun _=>h) (fun π y=>dxL y.2.2.2 π) (fun y=>y.1≤g.parts.length∧y.2.2.2.ok h n∧partsS p.funcs.length (g.parts.drop y.1) y.2.2.1=true∧0≤y.2.1∧y.2.1+y.2.2.1≤n∧globsD (p.globals.drop (gi+1)) (partsD (g.parts.drop y.1) y.2.1 y.2.2.2.d)=globsD p.globals ⟨List.replicate n 0,pub,sec⟩) (fun y=>g.parts.length - y.1) [0,1] (0,g.place,g.size,dx) ⟨Nat.zero_le _,hdx,g5,g1,by show g.place+g.size≤(n:Int);omega,hD⟩ (by (refine FitL.mk ?_ ?_ ?_ ?_<;>(repeat' (first|exact trivial|exact rfl|(refine AllB.opt rfl rfl ?_)|apply And.intro));done)) ?_
  generalize globsD p.globals ⟨List.replicate n 0,pub,sec⟩=R
  rintro π2 ⟨i,a,left,⟨b,pub,sec,A1,n1,c1,A2,n2,c2⟩⟩ ⟨hi,⟨hbl,hpub,hsec⟩,hP,ha0,hal,hD⟩
  dsimp only at hi hbl hpub hsec hP ha0 hal hD ⊢
  by_cases hlt2:i < g.parts.length
  ·obtain ⟨x,hx⟩:∃ x,g.parts[i]?=some x:=⟨_,List.getElem?_eq_getElem hlt2⟩
   obtain ⟨gpb,gpo,qcs,qe,rfl,hQ,hQl,XA,xc,hQv,hXd⟩:=hGp.get _ _ hx
   have hQn:=hd _ _ hQ
   rw [drop_get hx,partsD] at hD
   rw [drop_get hx,partsS] at hP
   have ha:a=(a.toNat:Int):=by omega
   by_cases hk0:x.kind=0
   ·have hpn':partN p.funcs.length x=some (x.data.length:Int):=by unfold partN;rw [if_pos hk0]
    rw [hpn'] at hP
    dsimp only at hP
    have hle:¬ ((x.data.length:Int) < 0∨left < x.data.length):=fun hc=>by rw [if_pos hc] at hP;cases hP
    rw [if_neg hle] at hP
    have hpl:partLen x=x.data.length:=by unfold partLen;rw [if_pos hk0]
    rw [hpl] at hD
    unfold partD at hD
    rw [if_pos hk0] at hD
    by_cases hne:x.data.length=0
    ·have e0:x.data=[]:=List.eq_nil_of_length_eq_zero hne
     rw [e0] at hD
     repeat (first|refine Ya ?_|refine Y1m ?_|((with_reducible apply (RS.sliceSL (b:=π2 1) (L:=a.toNat) (H:=n) (off':=(if n=a.toNat then 0 else 0+a.toNat * 1))));(iterate 3 exact rfl);exact ⟨_,_,rfl,ha⟩;exact rfl;omega;exact Nat.le_refl _;(show _ < 18446744073709551616;omega);exact rfl)|refine Y2t ?_|refine Y9 ?_|refine Y3 ?_|refine Yd ?_|refine Yu ?_|refine Y7 ?_|refine Y4 ?_|refine Yf ?_|refine Y0 ?_|refine Ye ?_|refine Y1 ?_|refine Y5 ?_)
     refine roundK_n (i+1,a+((0:Nat):Int),left - x.data.length,⟨b,pub,sec,A1,n1,c1,A2,n2,c2⟩) [0,1] rfl rfl ⟨by show i+1≤_;omega,?_,hP,by dsimp only;omega,by dsimp only;omega,?_⟩ (by show _ - (i+1) < _ - i;omega) (by (refine FitL.mk ?_ ?_ ?_ ?_<;>(repeat' (first|exact trivial|exact rfl|(refine AllB.opt rfl rfl ?_)|apply And.intro));done))
     ·exact ⟨hbl,hpub,hsec⟩
     ·simpa [putB] using hD
    ·have hXd':=hXd
     obtain ⟨_,_,_,_,hXA,_⟩:=hXd'.get 0 _ (List.getElem?_eq_getElem (by omega))
     subst hXA
     obtain ⟨ds,de,hQ2,hQ2l,htk⟩:=bytes_at hXd (by omega)
     have hQ2n:=hd _ _ hQ2
     have hmin:min x.data.length (n - a.toNat)=x.data.length:=by omega
     have hcp:∀ o,setL (bytesC b) a.toNat (takeV o (min x.data.length (n - a.toNat) * 1) ds)=setL (bytesC b) a.toNat (takeV o x.data.length ds):=fun o=>by rw [hmin,Nat.mul_one]
     repeat (first|refine Ya ?_|refine Y1m ?_|((with_reducible apply (RS.sliceSL (b:=π2 1) (L:=a.toNat) (H:=n) (off':=a.toNat)));(iterate 3 exact rfl);exact ⟨_,_,rfl,ha⟩;exact rfl;omega;exact Nat.le_refl _;(show _ < 18446744073709551616;omega);(rw [if_neg (by omega)];omega))|((with_reducible apply (RS.copyLB (i:=1) (cs':=bytesC (putB b a.toNat x.data))));(iterate 6 exact rfl);exact hQ2;exact hQ2n;(unfold bytesC;rw [List.length_map];dsimp only;omega);(first|omega|(dsimp only;omega));(rw [hmin,Nat.mul_one,htk _ (Nat.le_refl _)];exact bytes_one _);(refine (hcp _).trans ?_;rw [htk _ (Nat.le_refl _),List.take_length,putB_bytes]))|refine Y9 ?_|refine Y3 ?_|refine Yd ?_|refine Yu ?_|refine Y7 ?_|refine Y4 ?_|refine Yf ?_|refine Y0 ?_|refine Ye ?_|refine Y1 ?_|refine Y5 ?_)
     refine roundK_n (i+1,a+((min x.data.length (n - a.toNat):Nat):Int),left - x.data.length,⟨putB b a.toNat x.data,pub,sec,A1,n1,c1,A2,n2,c2⟩) [0,1] rfl rfl ⟨by show i+1≤_;omega,?_,hP,by dsimp only;omega,by dsimp only;omega,?_⟩ (by show _ - (i+1) < _ - i;omega) (by (refine FitL.mk ?_ ?_ ?_ ?_<;>(repeat' (first|exact trivial|exact rfl|(refine AllB.opt rfl rfl ?_)|apply And.intro));done))
     ·exact ⟨(putB_len _ _ _).trans hbl,hpub,hsec⟩
     ·rw [hmin];exact hD
   by_cases hk1:x.kind=1
   ·by_cases hr2:x.n < 0∨(p.funcs.length:Int)≤x.n
    ·have hpn':partN p.funcs.length x=none:=by unfold partN;rw [if_neg hk0,if_pos hk1,if_pos hr2]
     rw [hpn'] at hP;cases hP
    have hpn':partN p.funcs.length x=some 8:=by unfold partN;rw [if_neg hk0,if_pos hk1,if_neg hr2]
    rw [hpn'] at hP
    dsimp only at hP
    have hle:¬ ((8:Int) < 0∨left < 8):=fun hc=>by rw [if_pos hc] at hP;cases hP
    rw [if_neg hle] at hP
    have hpl:partLen x=8:=by unfold partLen;rw [if_neg hk0,if_pos hk1]
    rw [hpl] at hD
    unfold partD at hD
    rw [if_neg hk0,if_pos hk1] at hD
    repeat (first|refine Ya ?_|refine Y1m ?_|refine Y9 ?_|refine Y3 ?_|refine Y2 ?_|refine Yu ?_|refine Y7 ?_|refine Y4 ?_|refine Yf ?_|refine Y0 ?_|refine Y1y ?_|refine Y1 ?_|refine Y5 ?_|refine Y6 ?_)
    refine W.loop (X:=Nat) (fun π j=>[(3,.pointer (some ⟨π 0,0,none⟩)),(5,.slice (some ⟨π 1,0,none⟩) n n),(21,.slice (some ⟨gb,go,none⟩) p.globals.length d2),(22,.int .i64 p.globals.length),(23,.int .i64 gi),(8,.int .i64 a),(30,.slice (some ⟨gpb,gpo,none⟩) g.parts.length gc),(31,.int .i64 g.parts.length),(32,.int .i64 i),(11,.int .i64 (4194304+16 * x.n)),(54,.int .i64 j)]) (fun _=>h) (fun π j=>dxL ⟨storeV b a.toNat (4194304+16 * x.n) j,pub,sec,A1,n1,c1,A2,n2,c2⟩ π) (fun j=>j≤8) (fun j=>8 - j) [0,1] 0 (Nat.zero_le _) (by (refine FitL.mk ?_ ?_ ?_ ?_<;>(repeat' (first|exact trivial|exact rfl|(refine AllB.opt rfl rfl ?_)|apply And.intro));done)) ?_
    intro π3 j hj
    dsimp only at hj ⊢
    by_cases hj8:j < 8
    ·have hset:setL (bytesC (storeV b a.toNat (4194304+16 * x.n) j)) (0+(a.toNat+j) * 1) [.int .u8 (storeByte (4194304+16 * x.n) j)]=bytesC (storeV b a.toNat (4194304+16 * x.n) (j+1)):=by
      rw [Nat.zero_add,Nat.mul_one];exact setL_bytes _ _ _
     have hfit:0+(a.toNat+j) * 1+1≤(bytesC (storeV b a.toNat (4194304+16 * x.n) j)).length:=by
      unfold bytesC;rw [List.length_map,storeV_len];omega
     repeat (first|refine Y50 ?_|((with_reducible apply (RS.indexAddrS (n:=a.toNat+j)));(iterate 4 exact rfl);(first|omega|(dsimp only;omega));omega)|refine Y3w ?_|refine Y14 ?_|refine Y3 ?_|refine Yd ?_|refine Yu ?_|refine Y0 ?_|refine Ye ?_|refine Y1 ?_|refine Y5 ?_)
     exact roundK_n (j+1) [0,1] rfl rfl (by show j+1≤8;omega) (by show 8 - (j+1) < 8 - j;omega) (by (refine FitL.mk ?_ ?_ ?_ ?_<;>(repeat' (first|exact trivial|exact rfl|(refine AllB.opt rfl rfl ?_)|apply And.intro));done))
    ·have hj9:j=8:=by omega
     subst hj9
     repeat (first|refine Yh ?_|refine Y2 ?_|refine Yd ?_|refine Yu ?_|refine Y0 ?_|refine Y3q ?_|refine Y1 ?_|refine Y6 ?_|refine Yl ?_)
     refine roundK_n (i+1,a+8,left - 8,⟨storeV b a.toNat (4194304+16 * x.n) 8,pub,sec,A1,n1,c1,A2,n2,c2⟩) [0,1] rfl rfl ⟨by show i+1≤_;omega,?_,hP,by dsimp only;omega,by dsimp only;omega,?_⟩ (by show _ - (i+1) < _ - i;omega) (by (refine FitL.mk ?_ ?_ ?_ ?_<;>(repeat' (first|exact trivial|exact rfl|(refine AllB.opt rfl rfl ?_)|apply And.intro));done))
     ·exact ⟨(storeV_len _ _ _ _).trans hbl,hpub,hsec⟩
     ·exact hD
   by_cases hk2:x.kind=2
   ·have hpn':partN p.funcs.length x=some x.n:=by unfold partN;rw [if_neg (by omega),if_neg (by omega),if_pos (by omega)]
    rw [hpn'] at hP
    dsimp only at hP
    have hle:¬ (x.n < 0∨left < x.n):=fun hc=>by rw [if_pos hc] at hP;cases hP
    rw [if_neg hle] at hP
    obtain ⟨m,hm⟩:∃ m:Nat,x.n=m:=⟨x.n.toNat,by omega⟩
    have hpl:partLen x=x.n:=by unfold partLen;rw [if_neg (by omega),if_neg (by omega)]
    rw [hpl] at hD
    unfold partD at hD
    rw [if_neg (by omega),if_neg (by omega),if_pos (by omega)] at hD
    rw [hm,Int.toNat_natCast] at hD
    rw [← hm] at hD
    by_cases hk0:min n1 m=0
    ·have e1:pub.take m=[]:=by
      have:=hpub.len
      by_cases h0:m=0
      ·rw [h0];rfl
      ·rw [List.eq_nil_of_length_eq_zero (l:=pub) (by omega)];simp
     have e2:pub.drop m=pub:=by
      have:=hpub.len
      by_cases h0:m=0
      ·rw [h0];rfl
      ·rw [List.eq_nil_of_length_eq_zero (l:=pub) (by omega)];simp
     simp only [DX.d,e1,e2,putB] at hD
     cases hA:A1 with
     | none =>
      have hc0:=hpub.nil hA
      have hn0:n1=0:=by have:=hpub.le;omega
      subst hA;subst hc0;subst hn0
      repeat (first|refine Ya ?_|refine Y1m ?_|refine Y1d ?_|refine Y2t ?_|((with_reducible apply RS.sliceNil);(iterate 3 exact rfl);exact ⟨_,_,rfl,rfl⟩;exact rfl)|refine Y9 ?_|refine Y3 ?_|refine Y2 ?_|refine Yd ?_|refine Yu ?_|refine Y7 ?_|refine Y4 ?_|refine Yf ?_|refine Y0 ?_|refine Ye ?_|refine Y1 ?_|refine Y5 ?_|refine Y6 ?_)
      refine roundK_n (i+1,a+x.n,left - x.n,⟨b,pub,sec,none,0,0,A2,n2,c2⟩) [0,1] rfl rfl ⟨by show i+1≤_;omega,?_,hP,by dsimp only;omega,by dsimp only;omega,?_⟩ (by show _ - (i+1) < _ - i;omega) (by (refine FitL.mk ?_ ?_ ?_ ?_<;>(repeat' (first|exact trivial|exact rfl|(refine AllB.opt rfl rfl ?_)|apply And.intro));done))
      ·exact ⟨hbl,hpub,hsec⟩
      ·exact hD
     | some q =>
      have hq:=hpub.spot q hA
      obtain ⟨qb,qo,qs⟩:=q
      dsimp only at hq
      subst hq;subst hA
      have hle2:=hpub.le
      have hcm:=hpub.cap
      repeat (first|refine Ya ?_|refine Y1m ?_|refine Y1d ?_|refine Y2t ?_|((with_reducible apply (RS.sliceSL (b:=qb) (L:=0) (H:=n1) (off':=qo)));(iterate 3 exact rfl);exact ⟨_,_,rfl,rfl⟩;exact rfl;omega;omega;exact hcm;(split<;>omega))|refine Y9 ?_|refine Y3 ?_|refine Y2 ?_|refine Yd ?_|refine Yu ?_|refine Y7 ?_|refine Y4 ?_|refine Yf ?_|refine Y0 ?_|refine Ye ?_|refine Y1 ?_|refine Y5 ?_|refine Y6 ?_)
      refine roundK_n (i+1,a+x.n,left - x.n,⟨b,pub,sec,some ⟨qb,qo,none⟩,n1,c1,A2,n2,c2⟩) [0,1] rfl rfl ⟨by show i+1≤_;omega,?_,hP,by dsimp only;omega,by dsimp only;omega,?_⟩ (by show _ - (i+1) < _ - i;omega) (by (refine FitL.mk ?_ ?_ ?_ ?_<;>(repeat' (first|exact trivial|exact rfl|(refine AllB.opt rfl rfl ?_)|apply And.intro));done))
      ·exact ⟨hbl,hpub,hsec⟩
      ·exact hD
    ·have hn0:0 < pub.length:=by have:=hpub.len;omega
     have hle2:=hpub.le
     have hcm:=hpub.cap
     have hnl:=hpub.len
     cases hA:A1 with
     | none=>have:=hpub.nil hA;omega
     | some q =>
      have hq:=hpub.spot q hA
      obtain ⟨qb,qo,qs⟩:=q
      dsimp only at hq
      subst hq;subst hA
      obtain ⟨ds,de,hQ2,hQ2l,htk⟩:=bytes_at hpub.at_ hn0
      have hQ2n:=hd _ _ hQ2
      have e3:pub.take (min n1 (a.toNat+m - a.toNat))=pub.take m:=by
       rw [List.take_eq_take_iff];omega
      have e4:pub.drop (min n1 (a.toNat+m - a.toNat))=pub.drop m:=by
       by_cases h0:m≤n1
       ·rw [show min n1 (a.toNat+m - a.toNat)=m by omega]
       ·rw [List.drop_eq_nil_of_le (by omega),List.drop_eq_nil_of_le (by omega)]
      have hcp:setL (bytesC b) a.toNat (takeV qo ((min n1 (a.toNat+m - a.toNat)) * 1) ds)=bytesC (putB b a.toNat (pub.take m)):=by
       rw [Nat.mul_one,htk _ (by omega),e3,putB_bytes]
      repeat (first|refine Ya ?_|refine Y1m ?_|refine Y2g ?_|((with_reducible apply (RS.copyLB (i:=1) (cs':=bytesC (putB b a.toNat (pub.take m)))));(iterate 6 exact rfl);exact hQ2;exact hQ2n;(unfold bytesC;rw [List.length_map];dsimp only;omega);(first|omega|(dsimp only;omega));(dsimp only;rw [Nat.mul_one,htk _ (by omega)];exact bytes_one _);exact hcp)|((with_reducible apply (RS.sliceSL (b:=qb) (L:=min n1 (a.toNat+m - a.toNat)) (H:=n1) (off':=(if c1=min n1 (a.toNat+m - a.toNat) then qo else qo+(min n1 (a.toNat+m - a.toNat)) * 1))));(iterate 3 exact rfl);exact ⟨_,_,rfl,rfl⟩;exact rfl;omega;omega;exact hcm;exact rfl)|refine Y9 ?_|refine Y3 ?_|refine Y2 ?_|refine Yd ?_|refine Yu ?_|refine Y7 ?_|refine Y4 ?_|refine Yf ?_|refine Y0 ?_|refine Ye ?_|refine Y1 ?_|refine Y5 ?_|refine Y6 ?_)
      refine roundK_n (i+1,a+x.n,left - x.n,⟨putB b a.toNat (pub.take m),pub.drop (min n1 (a.toNat+m - a.toNat)),sec,some ⟨qb,if c1=min n1 (a.toNat+m - a.toNat) then qo else qo+(min n1 (a.toNat+m - a.toNat)) * 1,none⟩,n1 - (min n1 (a.toNat+m - a.toNat)),c1 - (min n1 (a.toNat+m - a.toNat)),A2,n2,c2⟩) [0,1] rfl rfl ⟨by show i+1≤_;omega,?_,hP,by dsimp only;omega,by dsimp only;omega,?_⟩ (by show _ - (i+1) < _ - i;omega) (by (refine FitL.mk ?_ ?_ ?_ ?_<;>(repeat' (first|exact trivial|exact rfl|(refine AllB.opt rfl rfl ?_)|apply And.intro));done))
      ·exact ⟨(putB_len _ _ _).trans hbl,InRow.drop hpub (by omega),hsec⟩
      ·simp only [DX.d,e4];exact hD
   have hk3:x.kind=3:=by
    by_cases hk3:x.kind=3
    ·exact hk3
    ·have:partN p.funcs.length x=none:=by unfold partN;rw [if_neg hk0,if_neg hk1,if_neg (by omega)]
     rw [this] at hP;cases hP
   have hdummy:True:=trivial
   refine (fun _=>?_) hdummy
   by_cases hk4:x.kind=3
   ·have hpn':partN p.funcs.length x=some x.n:=by unfold partN;rw [if_neg (by omega),if_neg (by omega),if_pos (by omega)]
    rw [hpn'] at hP
    dsimp only at hP
    have hle:¬ (x.n < 0∨left < x.n):=fun hc=>by rw [if_pos hc] at hP;cases hP
    rw [if_neg hle] at hP
    obtain ⟨m,hm⟩:∃ m:Nat,x.n=m:=⟨x.n.toNat,by omega⟩
    have hpl:partLen x=x.n:=by unfold partLen;rw [if_neg (by omega),if_neg (by omega)]
    rw [hpl] at hD
    unfold partD at hD
    rw [if_neg (by omega),if_neg (by omega),if_neg (by omega)] at hD
    rw [hm,Int.toNat_natCast] at hD
    rw [← hm] at hD
    by_cases hk0:min n2 m=0
    ·have e1:sec.take m=[]:=by
      have:=hsec.len
      by_cases h0:m=0
      ·rw [h0];rfl
      ·rw [List.eq_nil_of_length_eq_zero (l:=sec) (by omega)];simp
     have e2:sec.drop m=sec:=by
      have:=hsec.len
      by_cases h0:m=0
      ·rw [h0];rfl
      ·rw [List.eq_nil_of_length_eq_zero (l:=sec) (by omega)];simp
     simp only [DX.d,e1,e2,putB] at hD
     cases hA:A2 with
     | none =>
      have hc0:=hsec.nil hA
      have hn0:n2=0:=by have:=hsec.le;omega
      subst hA;subst hc0;subst hn0
      repeat (first|refine Ya ?_|refine Y1m ?_|refine Y1d ?_|refine Y2t ?_|((with_reducible apply RS.sliceNil);(iterate 3 exact rfl);exact ⟨_,_,rfl,rfl⟩;exact rfl)|refine Y9 ?_|refine Y3 ?_|refine Y2 ?_|refine Yd ?_|refine Yu ?_|refine Y7 ?_|refine Y4 ?_|refine Yf ?_|refine Y0 ?_|refine Ye ?_|refine Y1 ?_|refine Y5 ?_|refine Y6 ?_)
      refine roundK_n (i+1,a+x.n,left - x.n,⟨b,pub,sec,A1,n1,c1,none,0,0⟩) [0,1] rfl rfl ⟨by show i+1≤_;omega,?_,hP,by dsimp only;omega,by dsimp only;omega,?_⟩ (by show _ - (i+1) < _ - i;omega) (by (refine FitL.mk ?_ ?_ ?_ ?_<;>(repeat' (first|exact trivial|exact rfl|(refine AllB.opt rfl rfl ?_)|apply And.intro));done))
      ·exact ⟨hbl,hpub,hsec⟩
      ·exact hD
     | some q =>
      have hq:=hsec.spot q hA
      obtain ⟨qb,qo,qs⟩:=q
      dsimp only at hq
      subst hq;subst hA
      have hle2:=hsec.le
      have hcm:=hsec.cap
      repeat (first|refine Ya ?_|refine Y1m ?_|refine Y1d ?_|refine Y2t ?_|((with_reducible apply (RS.sliceSL (b:=qb) (L:=0) (H:=n2) (off':=qo)));(iterate 3 exact rfl);exact ⟨_,_,rfl,rfl⟩;exact rfl;omega;omega;exact hcm;(split<;>omega))|refine Y9 ?_|refine Y3 ?_|refine Y2 ?_|refine Yd ?_|refine Yu ?_|refine Y7 ?_|refine Y4 ?_|refine Yf ?_|refine Y0 ?_|refine Ye ?_|refine Y1 ?_|refine Y5 ?_|refine Y6 ?_)
      refine roundK_n (i+1,a+x.n,left - x.n,⟨b,pub,sec,A1,n1,c1,some ⟨qb,qo,none⟩,n2,c2⟩) [0,1] rfl rfl ⟨by show i+1≤_;omega,?_,hP,by dsimp only;omega,by dsimp only;omega,?_⟩ (by show _ - (i+1) < _ - i;omega) (by (refine FitL.mk ?_ ?_ ?_ ?_<;>(repeat' (first|exact trivial|exact rfl|(refine AllB.opt rfl rfl ?_)|apply And.intro));done))
      ·exact ⟨hbl,hpub,hsec⟩
      ·exact hD
    ·have hn0:0 < sec.length:=by have:=hsec.len;omega
     have hle2:=hsec.le
     have hcm:=hsec.cap
     have hnl:=hsec.len
     cases hA:A2 with
     | none=>have:=hsec.nil hA;omega
     | some q =>
      have hq:=hsec.spot q hA
      obtain ⟨qb,qo,qs⟩:=q
      dsimp only at hq
      subst hq;subst hA
      obtain ⟨ds,de,hQ2,hQ2l,htk⟩:=bytes_at hsec.at_ hn0
      have hQ2n:=hd _ _ hQ2
      have e3:sec.take (min n2 (a.toNat+m - a.toNat))=sec.take m:=by
       rw [List.take_eq_take_iff];omega
      have e4:sec.drop (min n2 (a.toNat+m - a.toNat))=sec.drop m:=by
       by_cases h0:m≤n2
       ·rw [show min n2 (a.toNat+m - a.toNat)=m by omega]
       ·rw [List.drop_eq_nil_of_le (by omega),List.drop_eq_nil_of_le (by omega)]
      have hcp:setL (bytesC b) a.toNat (takeV qo ((min n2 (a.toNat+m - a.toNat)) * 1) ds)=bytesC (putB b a.toNat (sec.take m)):=by
       rw [Nat.mul_one,htk _ (by omega),e3,putB_bytes]
      repeat (first|refine Ya ?_|refine Y1m ?_|refine Y2g ?_|((with_reducible apply (RS.copyLB (i:=1) (cs':=bytesC (putB b a.toNat (sec.take m)))));(iterate 6 exact rfl);exact hQ2;exact hQ2n;(unfold bytesC;rw [List.length_map];dsimp only;omega);(first|omega|(dsimp only;omega));(dsimp only;rw [Nat.mul_one,htk _ (by omega)];exact bytes_one _);exact hcp)|((with_reducible apply (RS.sliceSL (b:=qb) (L:=min n2 (a.toNat+m - a.toNat)) (H:=n2) (off':=(if c2=min n2 (a.toNat+m - a.toNat) then qo else qo+(min n2 (a.toNat+m - a.toNat)) * 1))));(iterate 3 exact rfl);exact ⟨_,_,rfl,rfl⟩;exact rfl;omega;omega;exact hcm;exact rfl)|refine Y9 ?_|refine Y3 ?_|refine Y2 ?_|refine Yd ?_|refine Yu ?_|refine Y7 ?_|refine Y4 ?_|refine Yf ?_|refine Y0 ?_|refine Ye ?_|refine Y1 ?_|refine Y5 ?_|refine Y6 ?_)
      refine roundK_n (i+1,a+x.n,left - x.n,⟨putB b a.toNat (sec.take m),pub,sec.drop (min n2 (a.toNat+m - a.toNat)),A1,n1,c1,some ⟨qb,if c2=min n2 (a.toNat+m - a.toNat) then qo else qo+(min n2 (a.toNat+m - a.toNat)) * 1,none⟩,n2 - (min n2 (a.toNat+m - a.toNat)),c2 - (min n2 (a.toNat+m - a.toNat))⟩) [0,1] rfl rfl ⟨by show i+1≤_;omega,?_,hP,by dsimp only;omega,by dsimp only;omega,?_⟩ (by show _ - (i+1) < _ - i;omega) (by (refine FitL.mk ?_ ?_ ?_ ?_<;>(repeat' (first|exact trivial|exact rfl|(refine AllB.opt rfl rfl ?_)|apply And.intro));done))
      ·exact ⟨(putB_len _ _ _).trans hbl,hpub,InRow.drop hsec (by omega)⟩
      ·simp only [DX.d,e4];exact hD
   ·exact absurd hk3 hk4
  ·have hni2:i=g.parts.length:=by omega
   subst hni2
   rw [List.drop_length,partsD] at hD
   repeat (first|refine Y25 ?_|refine Y2 ?_|refine Yd ?_|refine Y0 ?_|refine Y3q ?_|refine Y1 ?_|refine Y6 ?_|refine Yl ?_)
   exact roundK_n (gi+1,⟨b,pub,sec,A1,n1,c1,A2,n2,c2⟩) [0,1] rfl rfl ⟨by show gi+1≤_;omega,⟨hbl,hpub,hsec⟩,hD⟩ (by show _ - (gi+1) < _ - gi;omega) (by (refine FitL.mk ?_ ?_ ?_ ?_<;>(repeat' (first|exact trivial|exact rfl|(refine AllB.opt rfl rfl ?_)|apply And.intro));done))
 ·have hni:gi=p.globals.length:=by omega
  subst hni
  rw [List.drop_length,globsD] at hD
  have hb:dx.b=dataS p pub sec:=by unfold dataS;rw [hn,Int.toNat_natCast,← hD];rfl
  repeat (first|refine Yh ?_|refine Y2 ?_|refine Y0 ?_|refine Y1r ?_|refine Y1 ?_|refine Y6 ?_|refine Yl ?_)
  exact endsK_ret _ (.cons (.tmp rfl) .nil) ⟨rfl,1,Nat.lt_succ_self _,by rw [← hb];rfl,rfl⟩
theorem partD_len (a:Int) (d:DatS) (x:PartS):(partD a d x).b.length=d.b.length:=by
 unfold partD
 split
 ·exact putB_len _ _ _
 ·split
  ·exact storeV_len _ _ _ _
  ·split<;>exact putB_len _ _ _
theorem partsD_len:∀ (l:List PartS) (a:Int) (d:DatS),(partsD l a d).b.length=d.b.length:=by
 intro l
 induction l with
 | nil=>intro a d;rfl
 | cons x l ih=>intro a d;rw [partsD,ih,partD_len]
theorem globsD_len:∀ (l:List GlobS) (d:DatS),(globsD l d).b.length=d.b.length:=by
 intro l
 induction l with
 | nil=>intro d;rfl
 | cons x l ih=>intro d;rw [globsD,ih,partsD_len]
theorem dataS_len (p:ProgS) (pub sec:List Int):(dataS p pub sec).length=p.data.toNat:=by
 unfold dataS;rw [globsD_len];exact List.length_replicate
theorem InRow.up {h H:Hp} (hu:∀ i b,h.m i=some b→H.m i=some b) {A:Option Addr} {n c:Nat} {l:List Int} (r:InRow h A n c l):InRow H A n c l :=
 ⟨r.at_.mono hu fun _ _ h=>h,r.len,r.le,r.cap,r.nil,r.spot⟩
theorem bytes_free (l:List Int):∀ u∈bytesC l,bnd 0 u:=by
 intro u hu
 unfold bytesC at hu
 obtain ⟨_,_,rfl⟩:=List.mem_map.1 hu
 simp
def startS (fuel:Int) (dat stk:List Int):RunS:={ fin:=0,exit:=0,out:=[],leaks:=[],steps:=0,fuel:=fuel,data:=dat,stack:=stk,sp:=134217728,deep:=0 }
def endS (r:Int × RunS):RunS:=if r.2.fin=0 then { r.2 with exit:=r.1 } else r.2
def runS (p:ProgS) (N:Nat) (pub sec:List Int) (fuel:Int):RunS:=endS (callK p N 101 (startS fuel (dataS p pub sec) (List.replicate 416000 0)) p.main [])
def brokenS:RunS:={ fin:=50,exit:=0,out:=[],leaks:=[],steps:=0,fuel:=0,data:=[],stack:=[],sp:=0,deep:=0 }
def resV (s:RunS) (o l:Nat):Value:=.agg ⟨[.int .i64 s.fin,.int .i64 s.exit,rowVl 1 o s.out,rowVl 3 l s.leaks,.int .i64 s.steps]⟩
def resL (s:RunS) (_:Nat→Nat):List (Nat × Option Blk):=[(0,rowBk intW 2 s.out),(1,rowBk leakW 74 s.leaks)]
theorem res_par {n:Nat} (s:RunS):ParL n 2 (resL s) 2:=by
 refine ⟨ParB_row (fun a v hv=>?_) s.leaks,ParB_row (fun a v hv=>?_) s.out,trivial⟩
 ·simp only [leakW,List.mem_cons,List.not_mem_nil,or_false] at hv
  rcases hv with rfl|rfl|rfl<;>simp
 ·simp only [intW,List.mem_cons,List.not_mem_nil,or_false] at hv
  subst hv;simp
theorem res_parv {n:Nat} (s:RunS):ParV n 2 (fun π=>resV s (π 0) (π 1)):=by
 refine ⟨fun τ π hτ=>?_,fun π N hN hp=>?_⟩
 ·unfold resV
  rw [show ∀ l:List Value,sub τ (.agg ⟨l⟩)=.agg ⟨l.map (sub τ)⟩ from fun l=>by simp]
  simp [sub_row]
 ·have h0:=hp 0 (by omega)
  have h1:=hp 1 (by omega)
  unfold resV
  rw [bnd_agg]
  intro v hv
  have hv:v∈[Value.int .i64 s.fin,.int .i64 s.exit,rowVl 1 (π 0) s.out,rowVl 3 (π 1) s.leaks,.int .i64 s.steps]:=by simpa using hv
  simp only [List.mem_cons,List.not_mem_nil,or_false] at hv
  rcases hv with rfl|rfl|rfl|rfl|rfl
  all_goals first|exact bnd_row (by assumption)|simp
theorem res_one {a b c:Int} {o l:Nat} {x:List Int} {y:List LeakS}:([.int .i64 a,.int .i64 b,rowVl 1 o x,rowVl 3 l y,.int .i64 c]:List Value).all (·.oneCell')=true:=by
 cases x<;>cases y<;>rfl
set_option maxHeartbeats 4000000 in
set_option maxRecDepth 100000 in
theorem Run_to (B:Hp) (hd:∀ i b,B.m i=some b→i < B.n) (p:ProgS) (hR:RunP p) (hgl:p.globals.length≤1000000) (hpl:∀ g∈p.globals,g.parts.length≤1000000) (pb:Nat) (pe:TypeId) (P1:Option Addr) (d1:Nat) (P2:Option Addr) (d2:Nat) (hp:ProgAt B pb p pe P1 d1 P2 d2)
 (A1:Option Addr) (n1 c1:Nat) (A2:Option Addr) (n2 c2:Nat) (pub sec:List Int) (hi1:InRow B A1 n1 c1 pub) (hi2:InRow B A2 n2 c2 sec) (fuel:Int) (hf:0≤fuel∧fuel≤1000000) (N:Nat) (hN:fuel < N) :
 TO Tryd.prog 31 B 0 2 (fun _=>[.pointer (some ⟨pb,0,none⟩),.agg ⟨[.slice A1 n1 c1,.slice A2 n2 c2]⟩,.int .i64 fuel]) (fun _=>[]) (fun π=>resV (runS p N pub sec fuel) (π 0) (π 1)) (resL (runS p N pub sec fuel)):=by
 have hpb:=hd _ _ hp.m
 have hrp:=hR.right
 unfold rightP at hrp
 simp only [Bool.and_eq_true,decide_eq_true_eq] at hrp
 obtain ⟨⟨⟨⟨r1,r2⟩,r3⟩,r4⟩,r5⟩:=hrp
 obtain ⟨n,hn⟩:∃ n:Nat,p.data=n:=⟨p.data.toNat,by omega⟩
 unfold runS
 generalize hstk:List.replicate 416000 (0:Int)=stk
 have hlen:stk.length=416000:=by rw [← hstk];exact List.length_replicate
 have hrep:repL [.int .u8 0] stk.length=bytesC stk:=by rw [hlen,bytes_rep,hstk]
 clear hstk
 have hdl:(dataS p pub sec).length=n:=by rw [dataS_len,hn];rfl
 have hdata:∀ {k:Nat} (H:Hp),H.n=k→(∀ i b,B.m i=some b→H.m i=some b)→TF Tryd.prog 56 ⟨[.pointer (some ⟨pb,0,none⟩),.agg ⟨[.slice A1 n1 c1,.slice A2 n2 c2]⟩]⟩ H (.slice (some ⟨k,0,none⟩) (dataS p pub sec).length (dataS p pub sec).length) (H.push ⟨⟨bytesC (dataS p pub sec)⟩,5⟩):=by
  intro k H hk hu
  subst hk
  rw [hdl]
  exact Data_tf p r4 hR.nf hgl hpl n hn (by omega) pb pe P1 d1 P2 d2 H (hp.up hu) A1 n1 c1 A2 n2 c2 pub sec (hi1.up hu) (hi2.up hu)
 have hcall:CallTE B pb (callK p N 101) (startS fuel (dataS p pub sec) stk) p.main [] :=
  (call_all B hd p hR pb pe P1 d1 P2 d2 hp N 101 (startS fuel (dataS p pub sec) stk) p.main [] ⟨⟨by show (dataS p pub sec).length≤_;omega,by show stk.length≤_;omega,⟨Int.le_refl _,hf.1⟩,hf.2,by show ((0:Nat):Int)≤0;omega,by show ((0:Nat):Int)≤0;omega,⟨by show (0:Int)≤0;omega,by show (0:Int)≤101;omega⟩⟩,rfl,hlen,by show (134217728 - 4032 * 0:Int)≤134217728;omega,Int.le_refl _,by show (101:Int)≤0+101;omega,by show (0:Int)≤100;omega,by show fuel - 0 < N;omega⟩ (by rw [r1];rfl) (fun a ha=>by cases ha)).1
 unfold CallTE at hcall
 generalize dataS p pub sec=dat at *
 generalize callK p N 101 (startS fuel dat stk) p.main []=r at *
 refine TO.intro (fn:=Tryd.f31) (c:=(Tryd.f31.body.getD .skip)) Tryd.func31 (by kernel_rfl) Tryd.ntmps31 (fun π=>by kernel_rfl) (res_par _) (res_parv _) fun π=>?_
 refine W.ghost (W.ghost (W.ghost ?_))
 conv=>arg 2;whnf
 by_cases hfin:r.2.fin=0
 ·have hft:(r.2.fin == 0)=true:=by simpa using hfin
  rw [show endS r={ r.2 with exit:=r.1 } from if_pos hfin]
  repeat (first|refine Y4j ?_|((with_reducible apply W.condT);kernel_rfl;(refine congrArg (fun z=>some (Value.bool z)) (?_:_=true);assumption))|((with_reducible apply RS.callR true []);(iterate 3 exact rfl);exact fun H hH=>(show TF _ _ _ H (.int .i64 0) H by have h0:=Right_tf p hR.ok (fun f hf b hb x hx=>Nat.le_trans (hR.nargs f hf b hb x hx) (by decide)) pb pe P1 d1 P2 d2 H (hp.up (sees_up hH hd));rw [if_pos hR.right] at h0;exact h0);exact Nm_free (by simp))|refine Y4d ?_|refine Y1n ?_|refine Y4g ?_|((with_reducible apply (RS.callE [7,0,1,5,6,2] [0,3,4]));(iterate 2 exact rfl);exact hcall;(iterate 2 exact rfl);exact ⟨rfl,rfl,rfl,rfl,rfl,rfl,trivial⟩;intro π2 hπ2;rw [← hπ2 7 (by decide) (keepE rfl),← hπ2 4 (by decide) (keepE rfl)])|refine Y3x ?_|refine Y2n ?_|refine Ym ?_|refine Y8 ?_|refine Y4 ?_|refine Yf ?_|refine Y11 ?_|refine Y0 ?_|refine Y2u ?_|refine Y1 ?_|refine Y6 ?_)
  exact endsK_ret _ (.cons (.cellN rfl rfl rfl (Nat.le_of_ble_eq_true rfl)) .nil) (by (refine AtO.mk [0,1] rfl rfl rfl ?_ ?_ rfl<;>(repeat' (first|exact trivial|exact rfl|apply And.intro));done))
 ·have hft:(r.2.fin == 0)=false:=by simpa using hfin
  rw [show endS r=r.2 from if_neg hfin]
  repeat (first|refine Y4j ?_|((with_reducible apply W.condF);kernel_rfl;(refine congrArg (fun z=>some (Value.bool z)) (?_:_=false);assumption))|((with_reducible apply RS.callR true []);(iterate 3 exact rfl);exact fun H hH=>(show TF _ _ _ H (.int .i64 0) H by have h0:=Right_tf p hR.ok (fun f hf b hb x hx=>Nat.le_trans (hR.nargs f hf b hb x hx) (by decide)) pb pe P1 d1 P2 d2 H (hp.up (sees_up hH hd));rw [if_pos hR.right] at h0;exact h0);exact Nm_free (by simp))|refine Y4d ?_|refine Y1n ?_|refine Y4g ?_|((with_reducible apply (RS.callE [7,0,1,5,6,2] [0,3,4]));(iterate 2 exact rfl);exact hcall;(iterate 2 exact rfl);exact ⟨rfl,rfl,rfl,rfl,rfl,rfl,trivial⟩;intro π2 hπ2;rw [← hπ2 7 (by decide) (keepE rfl),← hπ2 4 (by decide) (keepE rfl)])|refine Y3x ?_|refine Y2n ?_|refine Ym ?_|refine Y8 ?_|refine Yf ?_|refine Y11 ?_|refine Y0 ?_|refine Y2u ?_|refine Y1 ?_|refine Y6 ?_)
  exact endsK_ret _ (.cons (.cellN rfl rfl rfl (Nat.le_of_ble_eq_true rfl)) .nil) (by (refine AtO.mk [0,1] rfl rfl rfl ?_ ?_ rfl<;>(repeat' (first|exact trivial|exact rfl|apply And.intro));done))
theorem lightI_mem:∀ {l:List InsS} {n m:Nat},lightI l n=some m→∀ x∈l,x.args.length≤4000:=by
 intro l
 induction l with
 | nil=>intro n m _ x hx;cases hx
 | cons a l ih =>
  intro n m h x hx
  rw [lightI] at h
  split at h
  ·rename_i hc
   rcases List.mem_cons.1 hx with rfl|hx
   ·omega
   ·exact ih h x hx
  ·cases h
theorem lightB_mem:∀ {l:List BlockS} {n m:Nat},lightB l n=some m→∀ b∈l,b.ins.length≤2000∧∀ x∈b.ins,x.args.length≤4000:=by
 intro l
 induction l with
 | nil=>intro n m _ x hx;cases hx
 | cons a l ih =>
  intro n m h x hx
  rw [lightB] at h
  split at h
  ·rename_i hc
   obtain ⟨k,h1,h2⟩:=Option.bind_eq_some_iff.1 h
   rcases List.mem_cons.1 hx with rfl|hx
   ·exact ⟨by omega,lightI_mem h1⟩
   ·exact ih h2 x hx
  ·cases h
theorem lightS_of {f:FuncS} (h:lightS f=true):f.slots.length≤4∧∀ z∈f.slots,0≤z∧z≤1000:=by
 unfold lightS at h
 have h:=List.all_eq_true.1 h
 refine ⟨?_,fun z hz=>?_⟩
 ·cases hs:f.slots with
  | nil=>simp
  | cons a l =>
   have:=h a (by rw [hs];simp)
   simp only [Bool.and_eq_true,decide_eq_true_eq] at this
   rw [← hs];exact this.2
 ·have:=h z hz
  simp only [Bool.and_eq_true,decide_eq_true_eq] at this
  exact this.1
theorem lightF_mem:∀ {l:List FuncS} {n m:Nat},lightF l n=some m→∀ f∈l,f.regs≤300∧(f.slots.length≤4∧∀ z∈f.slots,0≤z∧z≤1000)∧∀ b∈f.blocks,b.ins.length≤2000∧∀ x∈b.ins,x.args.length≤4000:=by
 intro l
 induction l with
 | nil=>intro n m _ x hx;cases hx
 | cons a l ih =>
  intro n m h x hx
  rw [lightF] at h
  split at h
  ·rename_i hc
   obtain ⟨k,h1,h2⟩:=Option.bind_eq_some_iff.1 h
   rcases List.mem_cons.1 hx with rfl|hx
   ·exact ⟨by omega,lightS_of hc.2.2.2,lightB_mem h1⟩
   ·exact ih h2 x hx
  ·cases h
structure LightP (p:ProgS):Prop where
 nf:p.funcs.length≤20
 ng:p.globals.length≤20
 np:∀ g∈p.globals,g.parts.length≤50
 f:∀ f∈p.funcs,f.regs≤300∧(f.slots.length≤4∧∀ z∈f.slots,0≤z∧z≤1000)∧∀ b∈f.blocks,b.ins.length≤2000∧∀ x∈b.ins,x.args.length≤4000
theorem lightP_all {p:ProgS} (h:lightP p=true):LightP p:=by
 unfold lightP at h
 simp only [Bool.and_eq_true,decide_eq_true_eq] at h
 obtain ⟨⟨⟨⟨⟨h1,h2⟩,h3⟩,h4⟩,h5⟩,h6⟩:=h
 obtain ⟨m,hm⟩:=Option.isSome_iff_exists.1 h6
 refine ⟨h1,h2,fun g hg=>?_,lightF_mem hm⟩
 have:=List.all_eq_true.1 h5 g hg
 unfold lightG at this
 simp only [Bool.and_eq_true,decide_eq_true_eq] at this
 exact this.1.2
theorem LightP.run {p:ProgS} (h:LightP p) (hok:p.ok) (hr:rightP p=true):RunP p :=
 ⟨hok,hr,by have:=h.nf;omega,fun f hf=>by have:=(h.f f hf).1;omega,fun f hf=>(h.f f hf).2.1.1,fun f hf=>(h.f f hf).2.1.2,fun f hf b hb=>by have:=((h.f f hf).2.2 b hb).1;omega,fun f hf b hb x hx=>by have:=((h.f f hf).2.2 b hb).2 x hx;omega⟩
def runR (p:ProgS) (N:Nat) (pub sec:List Int) (fuel:Int):RunS:=if rightP p=true then runS p N pub sec fuel else brokenS
theorem N_tf (n:Int) (h:Hp):TF Tryd.prog 28 ⟨[.int .i64 n]⟩ h (.agg ⟨[.int .i64 (-1),.int .i64 n]⟩) h:=by
 refine TF.still (fn:=Tryd.f28) (c:=(Tryd.f28.body.getD .skip)) Tryd.func28 (by kernel_rfl) Tryd.ntmps28 (by kernel_rfl) (by simp) ?_
 conv=>arg 2;whnf
 repeat (first|refine Y25 ?_|refine Y4 ?_|refine Yf ?_|refine Y11 ?_|refine Y0 ?_|refine Y1j ?_|refine Y1 ?_)
 exact endsK_ret _ (.cons (.cellN rfl rfl rfl (Nat.le_of_ble_eq_true rfl)) .nil) ⟨rfl,rfl⟩
theorem InRow.none {h:Hp}:InRow h none 0 0 []:=⟨SlAt.nil,rfl,Nat.le_refl _,by decide,fun _=>rfl,fun a ha=>by cases ha⟩
structure FuelOK (a b:RunS) (f:Int):Prop where
 out:∃ x,b.out=x++a.out
 leaks:∃ x,b.leaks=x++a.leaks
 steps:a.steps≤f
 same:a.fin≠42→a.fin=b.fin∧a.exit=b.exit∧a.steps=b.steps
 nout:a.out.length≤100000000∧b.out.length≤100000000
 nleaks:a.leaks.length≤100000000∧b.leaks.length≤100000000
structure RunBd (a:RunS) (f:Int):Prop where
 steps:a.steps≤f
 out:a.out.length≤100000000
 leaks:a.leaks.length≤100000000
theorem flat_at {α:Type} {w:α→List Value} {sz b:Nat} {e:TypeId} {H:Hp} {R:List Value→α→Prop} (hww:∀ a,(w a).length=sz) (hR:∀ a,R (w a) a) (l1 l2:List α) (hm:H.m b=some ⟨⟨((l1++l2).map w).flatten⟩,e⟩):SlAt H (some ⟨b,0,none⟩) sz l1 R:=by
 have hwid:∀ c∈(l1++l2).map w,c.length=sz:=by intro c hc;obtain ⟨_,_,rfl⟩:=List.mem_map.1 hc;exact hww _
 refine ⟨fun i x hx=>⟨b,0,_,e,rfl,hm,?_,?_⟩⟩
 ·have hi:=(List.getElem?_eq_some_iff.1 hx).1
  rw [flat_len hwid,List.length_map,List.length_append]
  have:(i+1) * sz≤(l1.length+l2.length) * sz:=Nat.mul_le_mul_right _ (by omega)
  rw [Nat.succ_mul] at this;omega
 ·have hi:=(List.getElem?_eq_some_iff.1 hx).1
  have ha:((l1++l2).map w)[i]?=some (w x):=by rw [List.getElem?_map,List.getElem?_append_left hi,hx];rfl
  have:takeV (0+i * sz) sz ((l1++l2).map w).flatten=w x:=by
   rw [takeV_eq]
   apply List.ext_getElem?
   intro j
   rw [List.getElem?_take]
   by_cases hj:j < sz
   ·rw [if_pos hj,List.getElem?_drop,Nat.zero_add,flat_get hwid i j hj,ha];rfl
   ·rw [if_neg hj,List.getElem?_eq_none (by rw [hww];omega)]
  rw [this];exact hR x
theorem row_at {α:Type} {w:α→List Value} {sz b:Nat} {e:TypeId} {H:Hp} {R:List Value→α→Prop} (hww:∀ a,(w a).length=sz) (hR:∀ a,R (w a) a) (x l:List α) (hm:H.m b=rowBk w e (x++l)):SlAt H (if x++l=[] then none else some ⟨b,0,none⟩) sz l.reverse R:=by
 by_cases h:x++l=[]
 ·have:l=[]:=by simp at h;exact h.2
  subst this;exact SlAt.nil
 ·rw [if_neg h]
  rw [rowBk_some h,List.reverse_append] at hm
  exact flat_at hww hR _ _ hm
end Go.Proofs.YtjhloakacicdiaaDoor
