/-
  What the functions that the law reaches compute,told by plain data;it holds of programs that pass the check of right form and are light.
-/
import Derived.Maps.RangeRun
import Derived.Test.YtjhloakacicdiaaDoorR1
import Derived.Test.YtjhloakacicdiaaDoorR4
import Derived.Test.YtjhloakacicdiaaDoorR5
import Derived.Test.YtjhloakacicdiaaDoorR9
import Derived.Test.YtjhloakacicdiaaDoorS2
set_option linter.unusedVariables false
set_option linter.unusedSimpArgs false
namespace Go.Proofs.YtjhloakacicdiaaDoor
open Go.AH
structure FactS where
 kind:Int
 n:Int
def anyF:FactS:=⟨2,0⟩
def noF:FactS:=⟨0,0⟩
def numF (n:Int):FactS:=⟨1,n⟩
def meetF (a b:FactS):FactS:=if a.kind=0 then b else if b.kind=0 then a else if a.kind=1∧b.kind=1∧a.n=b.n then a else anyF
def ofF (l:List FactS) (a:ArgS):FactS:=if a.reg < 0 then numF a.num else (l[a.reg.toNat]?).getD anyF
def twoF (op:Int) (a b:FactS):FactS :=
 if a.kind=1∧b.kind=1 then (if (reckonS op a.n b.n).2=true then numF (reckonS op a.n b.n).1 else anyF)
 else if a.kind≠2∧b.kind≠2 then noF else anyF
def resultF (l:List FactS) (x:InsS):FactS :=
 if x.op=1∨x.op=2 then ofF l x.a
 else if x.op=22∧(ofF l x.a).kind=1 then numF (widenS (ofF l x.a).n x.size x.signed)
 else if x.op=22∧(ofF l x.a).kind=0 then noF
 else if twoS x.op=true then twoF x.op (ofF l x.a) (ofF l x.b)
 else anyF
def stepF (l:List FactS) (x:InsS):List FactS:=if 0≤x.dst then l.set x.dst.toNat (resultF l x) else l
def nextF (t:TermS) (l:List FactS):List Int :=
 if t.kind≠2 then nextS t
 else if (ofF l t.a).kind≠1∨(ofF l t.b).kind≠1 then nextS t
 else if holdsS t.op (ofF l t.a).n (ofF l t.b).n=true then [t.goto] else [t.els]
def meetL:List FactS→List FactS→List FactS
 | a::l,b::m=>meetF a b::meetL l m
 | l,_=>l
def sameF (a b:FactS):Bool:=decide (a.kind=b.kind) && decide (a.n=b.n)
def sameL:List FactS→List FactS→Bool
 | a::l,b::m=>sameF a b && sameL l m
 | _,_=>true
structure SolS where
 ins:List (List FactS)
 seen:List Bool
 work:List Int
def reachF (l:List FactS) (s:SolS) (k:Int):SolS :=
 if s.seen[k.toNat]?.getD false=true then
  if sameL (meetL (s.ins[k.toNat]?.getD []) l) (s.ins[k.toNat]?.getD [])=true then s
  else ⟨s.ins.set k.toNat (meetL (s.ins[k.toNat]?.getD []) l),s.seen,k::s.work⟩
 else ⟨s.ins.set k.toNat l,s.seen.set k.toNat true,k::s.work⟩
def outF (bl:List BlockS) (s:SolS) (k:Int):List FactS:=match bl[k.toNat]? with
 | some b=>b.ins.foldl stepF (s.ins[k.toNat]?.getD [])
 | none=>[]
def roundF (bl:List BlockS) (s:SolS) (k:Int):SolS:=match bl[k.toNat]? with
 | some b=>(nextF b.term (outF bl s k)).foldl (reachF (outF bl s k)) s
 | none=>s
inductive SolRun (bl:List BlockS):SolS→SolS→Prop
 | stop {s:SolS} (h:s.work=[]):SolRun bl s s
 | go {s s':SolS} {k:Int} {w:List Int} (h:s.work=k::w) (hr:SolRun bl (roundF bl ⟨s.ins,s.seen,w⟩ k) s'):SolRun bl s s'
def sol0 (n:Nat) (regs:Int):SolS:=reachF (List.replicate regs.toNat anyF) ⟨List.replicate n [],List.replicate n false,[]⟩ 0
def argF (l:List FactS) (a:ArgS):ArgS:=if (ofF l a).kind=1 then ⟨-1,(ofF l a).n⟩ else a
def plainI (op dst:Int) (a:ArgS):InsS:=⟨op,dst,a,zeroA,0,false,false,0,0,[]⟩
def simpleF (x:InsS):InsS :=
 if 3≤x.op∧x.op≤15∧x.b.reg < 0 then
  if x.b.num=0∧(x.op=3∨x.op=4∨x.op=11∨x.op=12∨13≤x.op) then plainI 2 x.dst x.a
  else if x.b.num=0∧(x.op=5∨x.op=10) then plainI 1 x.dst ⟨-1,0⟩
  else if x.b.num=1∧(x.op=5∨x.op=6∨x.op=7) then plainI 2 x.dst x.a
  else x
 else x
def resF (l:List FactS) (x:InsS):FactS:=if 0≤x.dst then resultF l x else anyF
def knownF (l:List FactS) (x:InsS):InsS :=
 if (resF l x).kind=1∧pureS x.op=true then plainI 1 x.dst ⟨-1,(resF l x).n⟩ else { x with a:=argF l x.a,b:=argF l x.b,args:=x.args.map (argF l) }
def insF (l:List FactS) (x:InsS):InsS:=simpleF (knownF l x)
def insFs:List FactS→List InsS→List InsS
 | _,[]=>[]
 | l,x::xs=>insF l x::insFs (stepF l x) xs
def argsT (l:List FactS) (t:TermS):TermS:={ t with a:=argF l t.a,b:=argF l t.b }
def termF (l:List FactS) (t:TermS):TermS :=
 match nextF (argsT l t) l with
 | [k]=>if t.kind=2 then jumpT k else argsT l t
 | _=>argsT l t
def blockF (l:List FactS) (b:BlockS):BlockS:=⟨insFs l b.ins,termF (b.ins.foldl stepF l) b.term⟩
def foldB:List BlockS→List (List FactS)→List Bool→List BlockS
 | b::bl,l::ls,s::ss=>(if s=true then blockF l b else b)::foldB bl ls ss
 | bl,_,_=>bl
inductive FoldS (regs:Int) (bl:List BlockS):List BlockS→Prop
 | mk {s:SolS} (h:SolRun bl (sol0 bl.length regs) s):FoldS regs bl (foldB bl s.ins s.seen)
def ofA (m:MapC) (k:Int):Option ArgS:=(findR k m.rows 0).map fun x=>⟨x.2.2.getD 1 0,x.2.2.getD 2 0⟩
def argM (m:MapC) (a:ArgS) (but:Int):ArgS :=
 if 0≤a.reg then
  match ofA m a.reg with
  | some o=>if o.reg < 0∨o.reg≠but then o else a
  | none=>a
 else a
def rowM (k:Int) (a:ArgS):List Int:=[k,a.reg,a.num]
def dropM (m:MapC) (r:Int):MapC:={ m with rows:=m.rows.filter fun row=>decide (row.2.getD 1 0≠r) }
def sameI (x y:InsS):Bool:=decide (x.op=y.op) && (decide (x.a.reg=y.a.reg) && decide (x.a.num=y.a.num)) && (decide (x.b.reg=y.b.reg) && decide (x.b.num=y.b.num)) && decide (x.size=y.size) && decide (x.signed=y.signed) && decide (x.secret=y.secret) && decide (x.ref=y.ref) && decide (x.off=y.off)
def turnB (x:InsS):Bool:=decide (x.op=3∨x.op=5∨x.op=10∨x.op=11∨x.op=12∨x.op=16∨x.op=17) && decide (x.a.reg < x.b.reg)
def turnI (x:InsS):InsS:=if turnB x=true then { x with a:=x.b,b:=x.a } else x
abbrev KnS:=InsS × Int
def findW:List KnS→InsS→Int
 | [],_=>-1
 | k::l,x=>if sameI k.1 x=true then k.2 else findW l x
def memW (w:List KnS):List KnS:=w.filter fun k=>decide (k.1.op≠26)
def keepW (r:Int) (k:KnS):Bool:=decide (k.2≠r) && decide (k.1.a.reg≠r) && decide (k.1.b.reg≠r)
structure CseS where
 m:MapC
 w:List KnS
def chgC (s:CseS) (r:Int):CseS:=⟨dropM (s.m.del r) r,s.w.filter (keepW r)⟩
def putC (s:CseS) (k:Int) (a:ArgS):CseS:=⟨s.m.put (rowM k a),s.w⟩
def fullI (m:MapC) (x:InsS):InsS:={ x with a:=argM m x.a (-1),b:=argM m x.b (-1),args:=x.args.map fun a=>argM m a (-1) }
def headI (m:MapC) (x:InsS):InsS:={ x with a:=argM m x.a x.dst,b:=argM m x.b x.dst,args:=x.args.map fun a=>argM m a (-1) }
def foundW (s:CseS) (x:InsS):Int :=
 if findW s.w (turnI (fullI s.m x)) < 0 then findW s.w (turnI (headI s.m x)) else findW s.w (turnI (fullI s.m x))
def insX (s:CseS) (x:InsS):InsS :=
 if x.op=2∨x.op=1 then headI s.m x
 else if x.op=27∨x.op=28∨x.op=29 then headI s.m x
 else if x.op=30 then headI s.m x
 else if 0≤foundW s x then plainI 2 x.dst ⟨foundW s x,0⟩
 else turnI (headI s.m x)
def insM (s:CseS) (x:InsS):CseS :=
 if x.op=2∨x.op=1 then (if (headI s.m x).a.reg≠x.dst then putC (chgC s x.dst) x.dst (headI s.m x).a else chgC s x.dst)
 else if x.op=27∨x.op=28∨x.op=29 then (if 0≤x.dst then chgC ⟨s.m,memW s.w⟩ x.dst else ⟨s.m,memW s.w⟩)
 else if x.op=30 then s
 else if 0≤foundW s x then (if foundW s x≠x.dst then putC (chgC s x.dst) x.dst ⟨foundW s x,0⟩ else s)
 else if (turnI (headI s.m x)).a.reg≠x.dst∧(turnI (headI s.m x)).b.reg≠x.dst then ⟨(chgC s x.dst).m,(chgC s x.dst).w++[(turnI (headI s.m x),x.dst)]⟩
 else chgC s x.dst
def insMs:CseS→List InsS→List InsS
 | _,[]=>[]
 | s,x::l=>insX s x::insMs (insM s x) l
def cse0:CseS:=⟨⟨0,0,[]⟩,[]⟩
def termM (m:MapC) (t:TermS):TermS:={ t with a:=argM m t.a (-1),b:=argM m t.b (-1) }
def blockM (b:BlockS):BlockS:=⟨insMs cse0 b.ins,termM (b.ins.foldl insM cse0).m b.term⟩
def cseF (f:FuncS):FuncS:={ f with blocks:=f.blocks.map blockM }
structure MOK (m:MapC):Prop where
 s0:m.s=0
 shape:∀ r∈m.rows,∃ k a,r.2=rowM k a∧fitI k∧a.ok
 nod:(m.rows.map (·.1)).Nodup
 low:∀ r∈m.rows,r.1 < m.clock
 nodk:(m.rows.map keyR).Nodup
theorem MOK.empty:MOK ⟨0,0,[]⟩:=⟨rfl,(fun r h=>by cases h),(by simp),(fun r h=>by cases h),(by simp)⟩
theorem MOK.sub {m:MapC} (h:MOK m) {l:List MRow} (hs:l.Sublist m.rows):MOK { m with rows:=l } :=
 ⟨h.s0,fun r hr=>h.shape r (hs.subset hr),(hs.map _).nodup h.nod,fun r hr=>h.low r (hs.subset hr),(hs.map _).nodup h.nodk⟩
theorem MOK.del {m:MapC} (h:MOK m) (n:Int):MOK (m.del n):=by
 unfold MapC.del
 split
 ·exact h.sub (List.eraseIdx_sublist _ _)
 ·exact h
theorem MOK.drop {m:MapC} (h:MOK m) (n:Int):MOK (dropM m n):=h.sub List.filter_sublist
theorem modify_map {α β:Type} (f:α→α) (g:α→β) (hg:∀ a,g (f a)=g a):∀ (l:List α) (i:Nat),(l.modify i f).map g=l.map g:=by
 intro l i
 apply List.ext_getElem?
 intro j
 simp only [List.getElem?_map,List.getElem?_modify]
 cases l[j]? with
 | none=>rfl
 | some a=>by_cases h:i=j<;>simp [h,hg]
theorem modify_mem {α:Type} {f:α→α} {l:List α} {i:Nat} {a:α} (h:a∈l.modify i f):a∈l∨∃ b∈l,a=f b:=by
 obtain ⟨j,hj⟩:=List.getElem?_of_mem h
 rw [List.getElem?_modify] at hj
 cases hl:l[j]? with
 | none=>rw [hl] at hj;cases hj
 | some b =>
  rw [hl] at hj
  have hb:=List.mem_of_getElem? hl
  by_cases e:i=j
  ·simp [e] at hj;exact .inr ⟨b,hb,hj.symm⟩
  ·simp [e] at hj;exact .inl (hj ▸ hb)
theorem findR_none {n:Int}:∀ {l:List MRow} {i:Nat},findR n l i=none→∀ r∈l,n≠keyR r:=by
 intro l
 induction l with
 | nil=>intro i _ r hr;cases hr
 | cons a l ih =>
  intro i h r hr
  rw [findR] at h
  split at h
  ·cases h
  ·rcases List.mem_cons.1 hr with rfl|hr
   ·assumption
   ·exact ih h r hr
theorem findR_mem {n:Int}:∀ {l:List MRow} {i:Nat} {r:MRow},r∈l→n=keyR r→(l.map keyR).Nodup→∃ j,findR n l i=some (i+j,r)∧l[j]?=some r:=by
 intro l
 induction l with
 | nil=>intro i r hr;cases hr
 | cons a l ih =>
  intro i r hr hn hd
  rw [List.map_cons,List.nodup_cons] at hd
  rcases List.mem_cons.1 hr with rfl|hr
  ·exact ⟨0,by rw [findR,if_pos hn];rfl,rfl⟩
  ·have hne:n≠keyR a:=fun e=>hd.1 (by rw [← e,hn];exact List.mem_map.2 ⟨r,hr,rfl⟩)
   obtain ⟨j,h1,h2⟩:=ih (i:=i+1) hr hn hd.2
   exact ⟨j+1,by rw [findR,if_neg hne,h1];simp only [Option.some.injEq,Prod.mk.injEq,and_true];omega,h2⟩
theorem MOK.put {m:MapC} (h:MOK m) {k:Int} {a:ArgS} (hk:fitI k) (ha:a.ok):MOK (m.put (rowM k a)):=by
 unfold MapC.put
 split
 ·rename_i x hx
  obtain ⟨_,hx2,hx3⟩:=findR_some hx
  rw [Nat.sub_zero] at hx2
  refine ⟨h.s0,fun r hr=>?_,?_,fun r hr=>?_,?_⟩
  ·rcases modify_mem hr with hr|⟨b,hb,rfl⟩
   ·exact h.shape r hr
   ·exact ⟨k,a,rfl,hk,ha⟩
  ·show ((m.rows.modify x.1 fun e=>(e.1,rowM k a)).map (·.1)).Nodup
   rw [modify_map (fun e:MRow=>(e.1,rowM k a)) (fun e:MRow=>e.1) (fun _=>rfl)];exact h.nod
  ·rcases modify_mem hr with hr|⟨b,hb,rfl⟩
   ·exact h.low r hr
   ·exact h.low b hb
  ·show ((m.rows.modify x.1 fun e=>(e.1,rowM k a)).map keyR).Nodup
   have e:(m.rows.modify x.1 fun e=>(e.1,rowM k a)).map keyR=m.rows.map keyR:=by
    apply List.ext_getElem?
    intro j
    simp only [List.getElem?_map,List.getElem?_modify]
    by_cases hj:x.1=j
    ·subst hj
     rw [hx2]
     simp only [if_true]
     exact congrArg some hx3
    ·simp [hj]
   rw [e];exact h.nodk
 ·rename_i hx
  refine ⟨h.s0,fun r hr=>?_,?_,fun r hr=>?_,?_⟩
  ·rcases List.mem_append.1 hr with hr|hr
   ·exact h.shape r hr
   ·simp only [List.mem_singleton] at hr
    subst hr
    exact ⟨k,a,rfl,hk,ha⟩
  ·show ((m.rows++[(m.clock,rowM k a)]).map _).Nodup
   rw [List.map_append,List.nodup_append]
   refine ⟨h.nod,by simp,fun x hx y hy e=>?_⟩
   obtain ⟨r,hr,rfl⟩:=List.mem_map.1 hx
   simp at hy
   have:=h.low r hr
   omega
  ·show r.1 < m.clock+1
   rcases List.mem_append.1 hr with hr|hr
   ·have:=h.low r hr;omega
   ·simp only [List.mem_singleton] at hr
    subst hr;exact Nat.lt_succ_self _
  ·show ((m.rows++[(m.clock,rowM k a)]).map keyR).Nodup
   rw [List.map_append,List.nodup_append]
   refine ⟨h.nodk,by simp,fun x hx' y hy e=>?_⟩
   obtain ⟨r,hr,rfl⟩:=List.mem_map.1 hx'
   simp only [List.map_cons,List.map_nil,List.mem_singleton] at hy
   subst hy
   exact findR_none hx r hr e.symm
theorem ofA_ok {m:MapC} (h:MOK m) {k:Int} {o:ArgS} (ho:ofA m k=some o):o.ok:=by
 unfold ofA at ho
 cases hf:findR k m.rows 0 with
 | none=>rw [hf] at ho;cases ho
 | some x =>
  rw [hf] at ho
  obtain ⟨_,h2,_⟩:=findR_some hf
  obtain ⟨k',a,e,_,ha⟩:=h.shape x.2 (List.mem_of_getElem? h2)
  simp only [Option.map_some,Option.some.injEq,e,rowM] at ho
  subst ho
  exact ha
theorem argM_ok {m:MapC} (h:MOK m) {a:ArgS} (ha:a.ok) (but:Int):(argM m a but).ok:=by
 unfold argM
 split
 ·split
  ·rename_i o ho
   split
   ·exact ofA_ok h ho
   ·exact ha
  ·exact ha
 ·exact ha
theorem get_of {m:MapC} (h:MOK m) (z:ArgS) (k:Int):m.get (.agg ⟨argC z⟩) k=.tuple #[.agg ⟨argC ((ofA m k).getD z)⟩,.bool (ofA m k).isSome]:=by
 unfold MapC.get ofA
 cases hf:findR k m.rows 0 with
 | none=>rfl
 | some x =>
  obtain ⟨_,h2,_⟩:=findR_some hf
  obtain ⟨k',a,e,_,ha⟩:=h.shape x.2 (List.mem_of_getElem? h2)
  simp only [rowE,mapKV,e,rowM,Option.map_some,Option.getD_some,Option.isSome_some,argC]
  rfl
theorem nodup_idx {α:Type}:∀ {l:List α},l.Nodup→∀ {i j:Nat} {x:α},l[i]?=some x→l[j]?=some x→i=j
 | [],_,i,j,x,h,_=>by simp at h
 | a::l,h,0,0,x,_,_=>rfl
 | a::l,h,0,j+1,x,h1,h2=>by
  simp only [List.getElem?_cons_zero,Option.some.injEq,List.getElem?_cons_succ] at h1 h2
  rw [h1] at h
  exact absurd (List.mem_of_getElem? h2) (List.nodup_cons.1 h).1
 | a::l,h,i+1,0,x,h1,h2=>by
  simp only [List.getElem?_cons_zero,Option.some.injEq,List.getElem?_cons_succ] at h1 h2
  rw [h2] at h
  exact absurd (List.mem_of_getElem? h1) (List.nodup_cons.1 h).1
 | a::l,h,i+1,j+1,x,h1,h2=>by
  simp only [List.getElem?_cons_succ] at h1 h2
  rw [nodup_idx (List.nodup_cons.1 h).2 h1 h2]
theorem turnI_a (x:InsS):(turnI x).args=x.args:=by unfold turnI;split<;>rfl
theorem turnI_dst (x:InsS):(turnI x).dst=x.dst:=by unfold turnI;split<;>rfl
def CseR (f f':FuncS):Prop:=f'=cseF f
attribute [local irreducible] W RS
def factC (f:FactS):List Value:=[.int .i64 f.kind,.int .i64 f.n]
def factsC (l:List FactS):List Value:=l.flatMap factC
inductive FaAt (h:Hp):Option Addr→List FactS→Prop
 | none:FaAt h Option.none []
 | some {b:Nat} {l:List FactS} (hm:h.m b=Option.some ⟨⟨factsC l⟩,145⟩) (hr:rwM≤b):FaAt h (Option.some ⟨b,0,Option.none⟩) l
def faH (h:Hp) (A:Option Addr) (l:List FactS):Hp:=match A with
 | some a=>h.set a.block ⟨⟨factsC l⟩,145⟩
 | none=>h
theorem wrap64_in (n:Int):-9223372036854775808≤IntKind.i64.wrap n∧IntKind.i64.wrap n≤9223372036854775807:=by
 simp only [IntKind.wrap,IntKind.signed,IntKind.bits];simp;omega
theorem fit_wrap (n:Int):fitI (IntKind.i64.wrap n):=wrap64_in n
theorem fit_i64 (n:Int):fitI (i64 n):=wrap64_in n
theorem fit_fdiv {a:Int} (h:fitI a) (k:Nat):fitI (a.fdiv (2 ^ k)):=by
 have hp:(0:Int) < 2 ^ k:=Int.pow_pos (by omega)
 rw [Int.fdiv_eq_ediv_of_nonneg _ (Int.le_of_lt hp)]
 obtain ⟨h1,h2⟩:=h
 refine ⟨?_,?_⟩
 ·have:=Int.le_ediv_of_mul_le (a:=-9223372036854775808) (b:=a) hp (by
   have:(1:Int)≤2 ^ k:=hp
   have:=Int.mul_le_mul_of_nonpos_left (a:=(-9223372036854775808:Int)) (by omega) this
   omega)
  exact this
 ·by_cases ha:0≤a
  ·have:=Int.ediv_le_self (2 ^ k) ha
   omega
  ·have:=Int.ediv_neg_of_neg_of_pos (show a < 0 by omega) hp
   omega
theorem fit_tmod {a b:Int} (h:fitI a):fitI (a.tmod b):=by
 obtain ⟨h1,h2⟩:=h
 have hn:=Int.natAbs_tmod a b
 have hm:=Nat.mod_le a.natAbs b.natAbs
 by_cases ha:0≤a
 ·have:=Int.tmod_nonneg b ha
  constructor<;>omega
 ·have h3:=Int.tmod_nonneg b (show 0≤-a by omega)
  rw [Int.neg_tmod] at h3
  constructor<;>omega
theorem fit_quot {op a b:Int} (ha:fitI a):fitI (quotS op a b).1:=by
 unfold quotS
 split
 ·split
  ·exact ⟨by show (_:Int)≤0;omega,by show (0:Int)≤_;omega⟩
  ·exact fit_i64 _
 ·split
  ·exact ⟨by show (_:Int)≤0;omega,by show (0:Int)≤_;omega⟩
  ·split
   ·split
    ·exact ⟨by show (_:Int)≤0;omega,by show (0:Int)≤_;omega⟩
    ·exact fit_tmod ha
   ·split<;>exact fit_i64 _
theorem fit_reckon {op a b:Int} (ha:fitI a):fitI (reckonS op a b).1:=by
 unfold reckonS
 repeat' split
 all_goals first|exact fit_i64 _|exact fit_fdiv ha _|exact fit_quot ha|exact ⟨by show (_:Int)≤1;omega,by show (1:Int)≤_;omega⟩|exact ⟨by show (_:Int)≤0;omega,by show (0:Int)≤_;omega⟩
theorem fit_widen {n size:Int} {sg:Bool} (hn:fitI n):fitI (widenS n size sg):=by
 unfold widenS
 repeat' split
 ·exact hn
 ·exact fit_fdiv (fit_i64 _) _
 ·exact fit_i64 _
theorem base_up {h H:Hp} (hd:∀ i b,h.m i=some b→i < h.n) (hH:∀ id,id < h.n→H.m id=h.m id):∀ i b,h.m i=some b→H.m i=some b:=fun i b hb=>by rw [hH i (hd i b hb)];exact hb
def simpleV (x:InsS) (A:Option Addr) (c:Nat):List Value :=
 if 3≤x.op∧x.op≤15∧x.b.reg < 0 then
  if x.b.num=0∧(x.op=3∨x.op=4∨x.op=11∨x.op=12∨13≤x.op) then insC (plainI 2 x.dst x.a) none 0
  else if x.b.num=0∧(x.op=5∨x.op=10) then insC (plainI 1 x.dst ⟨-1,0⟩) none 0
  else if x.b.num=1∧(x.op=5∨x.op=6∨x.op=7) then insC (plainI 2 x.dst x.a) none 0
  else insC x A c
 else insC x A c
theorem insC_bd {n:Nat} (x:InsS) {A:Option Addr} {c:Nat} (hA:∀ a,A=some a→a.block < n):∀ v∈insC x A c,bnd n v:=by
 intro v hv
 simp only [insC,List.mem_cons,List.not_mem_nil,or_false] at hv
 rcases hv with e|e|e|e|e|e|e|e|e|e|e|e<;>subst e
 any_goals simp
 cases A with
 | none=>simp
 | some a=>simpa using hA a rfl
instance tyP_arg:TyP Tryd.prog 46 [.int .i64,.int .i64]:=⟨by kernel_rfl⟩
theorem eq_args (a b:ArgS):eqVs [.int .i64,.int .i64] (argC a) (argC b)=some (decide (a.reg=b.reg) && decide (a.num=b.num)):=by
 unfold argC
 show some ((a.reg == b.reg) && ((a.num == b.num) && true))=_
 rw [Bool.and_true]
 rfl
set_option maxRecDepth 100000 in
theorem same_tf (x y:InsS) (A:Option Addr) (c:Nat) (A':Option Addr) (c':Nat) (h:Hp):TF Tryd.prog 91 ⟨[.agg ⟨insC x A c⟩,.agg ⟨insC y A' c'⟩]⟩ h (.bool (sameI x y)) h:=by
 refine TF.still (fn:=Tryd.f91) (c:=(Tryd.f91.body.getD .skip)) Tryd.func91 (by kernel_rfl) Tryd.ntmps91 (by kernel_rfl) (by simp) ?_
 conv=>arg 2;whnf
 repeat' (first|((with_reducible apply RS.eqlAgg);(iterate 4 exact rfl);first|exact eq_args x.a y.a|exact eq_args x.b y.b)|((with_reducible apply RS.boolEql);iterate 4 exact rfl)|refine Y2b ?_|refine Yk ?_|refine Yb ?_|refine Yt ?_|refine Y7 ?_|refine Y8 ?_|refine Yn ?_|refine Y0 ?_|refine Y1j ?_|refine Y1 ?_|((refine YD ?_ ?_)<;>intro _)|((refine YG ?_ ?_)<;>intro _)|((refine YC ?_ ?_)<;>intro _)|((refine YN ?_ ?_)<;>intro _))
 all_goals refine endsK_ret _ (.cons (.tmp rfl) .nil) ⟨rfl,?_⟩
 all_goals simp [resultOf,sameI, *]
 all_goals rfl
theorem turn_bd {n:Nat} (x:InsS) {A:Option Addr} {c:Nat} (hA:∀ a,A=some a→a.block < n):bnd n (.agg ⟨insC x A c⟩):=by
 rw [bnd_agg]
 intro v hv
 exact insC_bd _ hA v (by simpa using hv)
set_option maxRecDepth 100000 in
theorem turned_tf (x:InsS) (A:Option Addr) (c:Nat) (h:Hp) (hA:∀ a,A=some a→a.block < h.n):TF Tryd.prog 75 ⟨[.agg ⟨insC x A c⟩]⟩ h (.agg ⟨insC (turnI x) A c⟩) h:=by
 refine TF.exact (fn:=Tryd.f75) (c:=(Tryd.f75.body.getD .skip)) Tryd.func75 (by kernel_rfl) Tryd.ntmps75 (by kernel_rfl) (fun s0=>⟨Nat.le_refl _,turn_bd _ hA,fun i b hb=>⟨s0.dom i b hb,s0.bd i b hb⟩⟩) fun π s0=>?_
 conv=>arg 2;whnf
 unfold turnI turnB
 repeat' (first|refine Y1a ?_|refine Ym ?_|refine Yt ?_|refine Y7 ?_|refine Y8 ?_|refine Y4 ?_|refine Yf ?_|refine Y0 ?_|refine Y2x ?_|refine Y1 ?_|refine Y5 ?_|((refine YD ?_ ?_)<;>intro _)|((refine YG ?_ ?_)<;>intro _)|((refine YC ?_ ?_)<;>intro _)|((refine YN ?_ ?_)<;>intro _))
 all_goals refine endsK_ret _ (.cons (.cellN rfl rfl rfl (Nat.le_of_ble_eq_true rfl)) .nil) fun B' a=>⟨?_,a.up⟩
 all_goals first
  | (rw [if_pos (by simp only [Bool.and_eq_true,decide_eq_true_eq];omega)];rfl)
  | (rw [if_neg (by simp only [Bool.and_eq_true,decide_eq_true_eq];omega)];rfl)
structure KnV where
 k:KnS
 A:Option Addr
 c:Nat
def knC (v:KnV):List Value:=insC v.k.1 v.A v.c++[.int .i64 v.k.2]
theorem knC_len (v:KnV):(knC v).length=13:=rfl
def rowK (l:List KnV):List (List Value):=l.map knC
theorem rowK_len (l:List KnV):∀ c∈rowK l,c.length=13:=by
 intro c hc
 obtain ⟨v,_,rfl⟩:=List.mem_map.1 hc
 rfl
theorem rowK_flat (l:List KnV):(rowK l).flatten.length=l.length * 13:=by
 rw [flat_len (rowK_len l)];simp [rowK]
theorem rowK_at {l:List KnV} {i:Nat} {v:KnV} (h:l[i]?=some v):takeV (0+i * 13) 13 (rowK l).flatten=knC v:=by
 rw [takeV_eq]
 apply List.ext_getElem?
 intro j
 rw [List.getElem?_take]
 split
 ·rename_i hj
  rw [List.getElem?_drop,Nat.zero_add,flat_get (rowK_len l) i j hj]
  unfold rowK
  rw [List.getElem?_map,h];rfl
 ·rename_i hj
  rw [List.getElem?_eq_none (by rw [knC_len];omega)]
structure CseAt (h:Hp) (N bb mb:Nat) (s:CseS):Prop where
 rw:rwM≤N
 gb:N≤bb
 gm:N≤mb
 hm:h.m mb=some ⟨⟨[]⟩,mapE s.m⟩
 ok:MOK s.m
 row:∃ (r:Nat) (l:List KnV),l.map (·.k)=s.w∧h.m bb=some ⟨⟨[.map (some mb),rowVl 13 r (rowK l)]⟩,98⟩∧(l≠[]→N≤r∧h.m r=some ⟨⟨(rowK l).flatten⟩,130⟩)
theorem CseAt.up {h H:Hp} {N bb mb:Nat} {s:CseS} (o:CseAt h N bb mb s) (hu:∀ i b,h.m i=some b→H.m i=some b):CseAt H N bb mb s:=by
 obtain ⟨r,l,h1,h2,h3⟩:=o.row
 exact ⟨o.rw,o.gb,o.gm,hu _ _ o.hm,o.ok,r,l,h1,hu _ _ h2,fun hl=>⟨(h3 hl).1,hu _ _ (h3 hl).2⟩⟩
set_option maxRecDepth 100000 in
theorem carg_tf (a:ArgS) (but:Int) (h:Hp) (N bb mb:Nat) (s:CseS) (o:CseAt h N bb mb s):TF Tryd.prog 55 ⟨[.pointer (some ⟨bb,0,none⟩),.agg ⟨argC a⟩,.int .i64 but]⟩ h (.agg ⟨argC (argM s.m a but)⟩) h:=by
 refine TF.dom fun hd=>?_
 obtain ⟨r,l,hl,hB,hR⟩:=o.row
 have hBn:=hd _ _ hB
 have hM:=o.hm
 have hMn:=hd _ _ hM
 have hMr:=Nat.le_trans o.rw o.gm
 have hs0:=o.ok.s0
 have hbm:bnd h.n (.map (some mb)):=by simpa using hMn
 have hget:=get_of o.ok ⟨0,0⟩ a.reg
 unfold argM
 generalize ofA s.m a.reg=q at hget ⊢
 cases q with
 | none =>
  simp only [Option.getD_none,Option.isSome_none] at hget
  refine TF.still (fn:=Tryd.f55) (c:=(Tryd.f55.body.getD .skip)) Tryd.func55 (by kernel_rfl) Tryd.ntmps55 (by kernel_rfl) (by simp [argC]) ?_
  conv=>arg 2;whnf
  repeat' (first|refine Y31 ?_|refine Y4r ?_|refine Y2n ?_|refine Yb ?_|refine Ym ?_|refine Y46 ?_|refine Y7 ?_|refine Y8 ?_|refine Y4 ?_|refine Yf ?_|refine Yn ?_|refine Y0 ?_|refine Y2u ?_|refine Y1 ?_|refine Y6 ?_|((refine YD ?_ ?_)<;>intro _)|((refine YG ?_ ?_)<;>intro _)|((refine YC ?_ ?_)<;>intro _)|((refine YN ?_ ?_)<;>intro _))
  all_goals refine endsK_ret _ (.cons (.cellN rfl rfl rfl (Nat.le_of_ble_eq_true rfl)) .nil) ⟨rfl,?_⟩
  all_goals split<;>rfl
 | some q =>
  simp only [Option.getD_some,Option.isSome_some] at hget
  refine TF.still (fn:=Tryd.f55) (c:=(Tryd.f55.body.getD .skip)) Tryd.func55 (by kernel_rfl) Tryd.ntmps55 (by kernel_rfl) (by simp [argC]) ?_
  conv=>arg 2;whnf
  repeat' (first|refine Y31 ?_|refine Y4r ?_|refine Y2n ?_|refine Yk ?_|refine Yb ?_|refine Ym ?_|refine Yt ?_|refine Y46 ?_|refine Y7 ?_|refine Y8 ?_|refine Y4 ?_|refine Yf ?_|refine Yn ?_|refine Y0 ?_|refine Y2v ?_|refine Y1 ?_|refine Y5 ?_|((refine YD ?_ ?_)<;>intro _)|((refine YG ?_ ?_)<;>intro _)|((refine YC ?_ ?_)<;>intro _)|((refine YN ?_ ?_)<;>intro _))
  all_goals refine endsK_ret _ (.cons (.cellN rfl rfl rfl (Nat.le_of_ble_eq_true rfl)) .nil) ⟨rfl,?_⟩
  all_goals first
   | (rw [if_neg (by assumption)];rfl)
   | (rw [if_pos (by assumption)];dsimp only;first|(rw [if_pos (by simp_all)];rfl)|(rw [if_neg (by simp_all)];rfl))
theorem findW_drop {w:List KnS} {i:Nat} {k:KnS} (h:w[i]?=some k) (x:InsS):findW (w.drop i) x=if sameI k.1 x=true then k.2 else findW (w.drop (i+1)) x:=by
 obtain ⟨hl,he⟩:=List.getElem?_eq_some_iff.1 h
 rw [List.drop_eq_getElem_cons hl,he,findW]
set_option maxRecDepth 100000 in
theorem find_tf (x:InsS) (A:Option Addr) (c:Nat) (h:Hp) (N bb mb:Nat) (s:CseS) (hw:s.w.length≤1000000000) (o:CseAt h N bb mb s):TF Tryd.prog 76 ⟨[.pointer (some ⟨bb,0,none⟩),.agg ⟨insC x A c⟩]⟩ h (.int .i64 (findW s.w x)) h:=by
 obtain ⟨r,l,hl,hB0,hR⟩:=o.row
 have hll:l.length=s.w.length:=by rw [← hl];simp
 refine TF.exact (fn:=Tryd.f76) (c:=(Tryd.f76.body.getD .skip)) Tryd.func76 (by kernel_rfl) Tryd.ntmps76 (by kernel_rfl) (fun s0=>⟨Nat.le_refl _,by simp,fun i b hb=>⟨s0.dom i b hb,s0.bd i b hb⟩⟩) fun π s0=>?_
 conv=>arg 2;whnf
 have hd:=s0.dom
 have hB:=hB0
 have hBn:=hd _ _ hB
 rw [rowVl_eq] at hB
 have hrl:(rowK l).length=l.length:=by simp [rowK]
 ((with_reducible apply W.seq);repeat (first|refine Y4p ?_|refine Y0 ?_|refine Y1 ?_|refine Y13 ?_))
 ((with_reducible apply W.seq);repeat (fail))
 ((with_reducible apply W.seq);repeat (first|refine Y3i ?_|refine Y2a ?_|refine Y0 ?_|refine Y1 ?_|refine Y3u ?_))
 rw [hrl]
 refine W.loopN (X:=Nat) (fun i=>[(0,.pointer (some ⟨bb,0,none⟩)),(10,.slice (if rowK l=[] then none else some ⟨r,0,none⟩) l.length (if rowK l=[] then 0 else capOf 13)),(11,.int .i64 (l.length:Int)),(12,.int .i64 (i:Int)),(3,.pointer (some ⟨π 0,0,none⟩))])
  (fun i B=>i≤l.length∧(∀ j b,h.m j=some b→B.m j=some b)∧findW s.w x=findW (s.w.drop i) x∧B.m (π 0)=some ⟨⟨insC x A c⟩,58⟩) (fun i=>l.length - i)
  (fun B' a=>⟨0,by (repeat' (first|exact trivial|exact rfl|apply And.intro));done,⟨Nat.zero_le _,a.up,rfl,a.loc 0 (by decide:(0:Nat) < 1)⟩⟩) ?_
 rintro i B π1 sB ⟨hi,hu,hf,hx⟩
 have hxn:=sB.dom _ _ hx
 by_cases hlt:i < l.length
 ·obtain ⟨v,hv⟩:∃ v,l[i]?=some v:=⟨_,List.getElem?_eq_getElem hlt⟩
  have hwv:s.w[i]?=some v.k:=by rw [← hl,List.getElem?_map,hv];rfl
  have hne:l≠[]:=by intro e;rw [e] at hlt;exact absurd hlt (Nat.not_lt_zero _)
  have hne2:rowK l≠[]:=by intro e;rw [e] at hrl;exact hne (List.length_eq_zero_iff.1 hrl.symm)
  have hr:=hu _ _ (hR hne).2
  have hrn:=sB.dom _ _ hr
  have hle:0+i * 13+13≤(rowK l).flatten.length:=by rw [rowK_flat];omega
  rw [if_neg hne2,if_neg hne2]
  rw [findW_drop hwv] at hf
  obtain ⟨sm,hsm⟩:∃ b,sameI v.k.1 x=b:=⟨_,rfl⟩
  cases sm with
  | true =>
   repeat (first|refine Ya ?_|refine Y3k ?_|refine Y4h ?_|refine Y4l ?_|refine Y3 ?_|refine Y7 ?_|refine Y8 ?_|refine Y4 ?_|refine Yf ?_|refine Y0 ?_|(with_reducible first|apply W.seq|apply W.block|apply W.ret|apply W.skip|apply thenK_n|apply thenK_r|apply blockK_r|apply roundN_r)|refine Y1 ?_|refine Y5 ?_)
   rw [hsm,if_pos rfl] at hf
   exact endsK_ret _ (.cons (.tmp rfl) .nil) fun B' a=>⟨by rw [hf];rfl,fun j b hb=>a.up _ _ (hu _ _ hb)⟩
  | false =>
   repeat (first|refine Ya ?_|refine Y3k ?_|refine Y4h ?_|refine Y16 ?_|refine Y3 ?_|refine Yd ?_|refine Y8 ?_|refine Y4 ?_|refine Yf ?_|refine Y0 ?_|refine Ye ?_|refine Y1 ?_|refine Y5 ?_|refine Y6 ?_)
   rw [hsm,if_neg (by decide)] at hf
   exact roundN_n rfl fun B' a=>⟨i+1,by (repeat' (first|exact trivial|exact rfl|apply And.intro));done,⟨hlt,fun j b hb=>a.up _ _ (hu _ _ hb),hf,a.up _ _ hx⟩,by omega⟩
 ·have hil:i=l.length:=by omega
  subst hil
  repeat (first|refine Y15 ?_|refine Y2 ?_|refine Y0 ?_|refine Y1x ?_|refine Y1 ?_|refine Y6 ?_|refine Yl ?_)
  rw [hll,List.drop_length] at hf
  exact endsK_ret _ (.cons (.tmp rfl) .nil) fun B' a=>⟨by rw [hf];rfl,fun j b hb=>a.up _ _ (hu _ _ hb)⟩
structure KeepC (bb mb:Nat) (h h':Hp):Prop where
 le:h.n≤h'.n
 m:∀ i b,h.m i=some b→i≠bb→i≠mb→h'.m i=some b
theorem rowK_append (l:List KnV) (v:KnV):rowK l++[knC v]=rowK (l++[v]):=by simp [rowK]
theorem rowK_nil {l:List KnV}:rowK l=[]↔l=[]:=by simp [rowK]
theorem filter_take {α:Type} (p:α→Bool) {l:List α} {i:Nat} {v:α} (h:l[i]?=some v):(l.take (i+1)).filter p=(l.take i).filter p++(if p v=true then [v] else []):=by
 rw [List.take_add_one,h,Option.toList_some,List.filter_append]
 congr 1
 simp [List.filter_cons]
structure FilI (h:Hp) (p:KnV→Bool) (l:List KnV) (i r':Nat) (B:Hp):Prop where
 up:∀ j b,h.m j=some b→B.m j=some b
 le:h.n≤B.n
 row:(l.take i).filter p≠[]→h.n≤r'∧B.m r'=some ⟨⟨(rowK ((l.take i).filter p)).flatten⟩,130⟩
theorem FilI.push {h B B7 H7:Hp} {p:KnV→Bool} {l:List KnV} {i r' r7:Nat} {v:KnV} (hd:∀ i b,h.m i=some b→i < h.n) (hI:FilI h p l i r' B) (hft:(l.take (i+1)).filter p=(l.take i).filter p++[v]) (hup:∀ j b,B.m j=some b→B7.m j=some b) (hd7:∀ j b,B7.m j=some b→j < B7.n) (hlB:B.n≤B7.n)
 (hr7:B7.n≤r7) (hm7:H7.m r7=some ⟨⟨(rowK ((l.take i).filter p)++[knC v]).flatten⟩,130⟩) (hle7:B7.n≤H7.n) (hoff7:∀ j,j < B7.n→(rowK ((l.take i).filter p)≠[]→j≠r')→H7.m j=B7.m j):FilI h p l (i+1) r7 H7:=by
 have hle:=hI.le
 refine ⟨fun j b hb=>?_,by omega,fun _=>⟨by omega,by rw [hft,← rowK_append];exact hm7⟩⟩
 have h7:=hup _ _ (hI.up _ _ hb)
 rw [hoff7 j (hd7 _ _ h7) (fun hn=>?_)]
 ·exact h7
 ·have:=(hI.row (fun e=>hn (by rw [e];rfl))).1
  have:=hd _ _ hb
  omega
theorem CseAt.ne {h:Hp} {N bb mb:Nat} {s:CseS} (o:CseAt h N bb mb s):mb≠bb:=by
 intro e
 obtain ⟨r,l,_,h2,_⟩:=o.row
 have:=o.hm
 rw [e,h2] at this
 injection this with this
 injection this with _ this
 have h3:=mapE_ge s.m
 rw [← this] at h3
 exact absurd h3 (by decide)
theorem cse_close {h B B':Hp} {N bb mb:Nat} {s:CseS} (hd:∀ i b,h.m i=some b→i < h.n) (o:CseAt h N bb mb s) (hup:∀ j b,h.m j=some b→B.m j=some b) (hle:h.n≤B.n) (r':Nat) (l':List KnV) (hrow:l'≠[]→h.n≤r'∧B.m r'=some ⟨⟨(rowK l').flatten⟩,130⟩)
 (hB':∀ j b,(B.set bb ⟨⟨[.map (some mb),rowVl 13 r' (rowK l')]⟩,98⟩).m j=some b→B'.m j=some b) (hle':B.n≤B'.n):CseAt B' N bb mb ⟨s.m,l'.map (·.k)⟩∧KeepC bb mb h B':=by
 have hne:=o.ne
 obtain ⟨r,l,_,h2,_⟩:=o.row
 have hbn:=hd _ _ h2
 have hgb:=o.gb
 have off:∀ j b,B.m j=some b→j≠bb→B'.m j=some b:=fun j b hb hj=>hB' j b (by show (if j=bb then _ else B.m j)=_;rw [if_neg hj];exact hb)
 refine ⟨⟨o.rw,o.gb,o.gm,off _ _ (hup _ _ o.hm) hne,o.ok,r',l',rfl,hB' _ _ (by show (if bb=bb then _ else B.m bb)=_;rw [if_pos rfl]),fun hn=>?_⟩,⟨Nat.le_trans hle hle',fun j b hb h1 _=>off _ _ (hup _ _ hb) h1⟩⟩
 obtain ⟨g1,g2⟩:=hrow hn
 exact ⟨by omega,off _ _ g2 (by omega)⟩
set_option maxRecDepth 100000 in
theorem memory_ex (h:Hp) (N bb mb:Nat) (s:CseS) (hw:s.w.length≤1000000000) (o:CseAt h N bb mb s):EX Tryd.prog 74 [.pointer (some ⟨bb,0,none⟩)] h (fun v h'=>v=.tuple #[]∧CseAt h' N bb mb ⟨s.m,memW s.w⟩∧KeepC bb mb h h'):=by
 obtain ⟨r,l,hl,hB0,hR⟩:=o.row
 have hll:l.length=s.w.length:=by rw [← hl];simp
 refine EX.intro (fn:=Tryd.f74) (c:=(Tryd.f74.body.getD .skip)) Tryd.func74 (by kernel_rfl) Tryd.ntmps74 (by kernel_rfl) fun π s0=>?_
 conv=>arg 2;whnf
 have hd:=s0.dom
 have hB:=hB0
 have hBn:=hd _ _ hB
 rw [rowVl_eq] at hB
 have hrl:(rowK l).length=l.length:=by simp [rowK]
 ((with_reducible apply W.seq);repeat (first|refine Y15 ?_|refine Y0 ?_|refine Y1 ?_|refine Y13 ?_))
 ((with_reducible apply W.seq);repeat (fail))
 ((with_reducible apply W.seq);repeat (first|refine Y3i ?_|refine Y2a ?_|refine Y0 ?_|refine Y1 ?_|refine Y3u ?_))
 refine W.loopN (X:=Nat × Nat) (fun x=>[(0,.pointer (some ⟨bb,0,none⟩)),(8,.slice (if rowK l=[] then none else some ⟨r,0,none⟩) l.length (if rowK l=[] then 0 else capOf 13)),(9,.int .i64 (l.length:Int)),(10,.int .i64 (x.1:Int)),(2,rowVl 13 x.2 (rowK ((l.take x.1).filter fun v=>decide (v.k.1.op≠26))))])
  (fun x B=>x.1≤l.length∧FilI h (fun v=>decide (v.k.1.op≠26)) l x.1 x.2 B) (fun x=>l.length - x.1)
  (fun B' a=>⟨(0,0),by (rw [← hrl];(repeat' (first|exact trivial|exact rfl|apply And.intro));done),⟨Nat.zero_le _,a.up,a.le,fun hn=>by simp at hn⟩⟩) ?_
 rintro ⟨i,r'⟩ B π1 sB ⟨hi,hI⟩
 dsimp only at hi hI ⊢
 by_cases hlt:i < l.length
 ·obtain ⟨v,hv⟩:∃ v,l[i]?=some v:=⟨_,List.getElem?_eq_getElem hlt⟩
  have hne:l≠[]:=by intro e;rw [e] at hlt;exact absurd hlt (Nat.not_lt_zero _)
  have hne2:rowK l≠[]:=fun e=>hne (rowK_nil.1 e)
  have hr:=hI.up _ _ (hR hne).2
  have hrn:=sB.dom _ _ hr
  have hle:0+i * 13+13≤(rowK l).flatten.length:=by rw [rowK_flat];omega
  have hft:=filter_take (fun v:KnV=>decide (v.k.1.op≠26)) hv
  have hfl:((l.take i).filter fun v=>decide (v.k.1.op≠26)).length≤1000000000:=Nat.le_trans (List.length_filter_le _ _) (by rw [List.length_take];omega)
  rw [if_neg hne2,if_neg hne2]
  by_cases hop:v.k.1.op=26
  ·repeat (first|refine Ya ?_|refine Y26 ?_|refine Y2 ?_|refine Y16 ?_|refine Y3 ?_|refine Yd ?_|refine Y7 ?_|refine Y4 ?_|refine Yf ?_|refine Y0 ?_|refine Ye ?_|refine Y1 ?_|refine Y5 ?_|refine Y6 ?_)
   rw [if_neg (by simp [hop]),List.append_nil] at hft
   exact roundN_n rfl fun B' a=>⟨(i+1,r'),by (rw [hft];(repeat' (first|exact trivial|exact rfl|apply And.intro));done),⟨hlt,fun j b hb=>a.up _ _ (hI.up _ _ hb),Nat.le_trans hI.le a.le,fun hn=>by rw [hft] at hn ⊢;exact ⟨(hI.row hn).1,a.up _ _ (hI.row hn).2⟩⟩,by omega⟩
  ·repeat (first|refine Ya ?_|refine Y26 ?_|((with_reducible apply RS.pushRow (v:=knC v) (L:=rowK ((l.take i).filter fun v=>decide (v.k.1.op≠26))));(iterate 6 exact rfl);exact fun Bq hBq=>⟨hBq.loc 1 (by decide:(1:Nat) < 2),fun hn=>(have hn:(l.take i).filter (fun v=>decide (v.k.1.op≠26))≠[]:=fun e=>hn (by rw [e];rfl);⟨Nat.le_trans s0.rw (hI.row hn).1,hBq.up _ _ (hI.row hn).2⟩)⟩;exact rowK_len _;(iterate 2 exact rfl);(rw [show (rowK ((l.take i).filter fun v=>decide (v.k.1.op≠26))).length=_ from List.length_map ..];omega);(rw [show (rowK ((l.take i).filter fun v=>decide (v.k.1.op≠26))).length=_ from List.length_map ..];omega);intro B7 hB7 r7 H7 π7 sH7 hr7 hm7 hle7 hoff7)|refine Yi ?_|refine Y9 ?_|refine Y3 ?_|refine Yd ?_|refine Y7 ?_|refine Y8 ?_|refine Y4 ?_|refine Yf ?_|refine Y0 ?_|refine Ye ?_|refine Y1 ?_|refine Y5 ?_)
   rw [if_pos (by simp [hop])] at hft
   have hI7:=hI.push hd hft hB7.up hB7.dom hB7.le hr7 hm7 hle7 hoff7
   exact roundN_n rfl fun B' a=>⟨(i+1,r7),by (rw [hft,← rowK_append];(repeat' (first|exact trivial|exact rfl|apply And.intro));done),⟨hlt,fun j b hb=>a.up _ _ (hI7.up _ _ hb),Nat.le_trans hI7.le a.le,fun hn=>⟨(hI7.row hn).1,a.up _ _ (hI7.row hn).2⟩⟩,by omega⟩
 ·have hil:i=l.length:=by omega
  subst hil
  rw [List.take_length] at *
  have hBb:=hI.up _ _ hB
  have hBbn:=sB.dom _ _ hBb
  have hBr:=Nat.le_trans o.rw o.gb
  rw [rowVl_eq]
  repeat (first|refine Y2 ?_|((with_reducible apply RS.storeB);(iterate 3 exact rfl);exact hBb;exact hBbn;exact hBr;exact Nat.le_of_ble_eq_true rfl;iterate 3 exact rfl)|refine Y20 ?_|refine Y0 ?_|refine Y4a ?_|refine Y1 ?_|refine Y6 ?_|refine Yl ?_)
  refine endsK_normal [] .nil fun B' a=>⟨rfl,?_⟩
  have:=cse_close hd o hI.up hI.le r' (l.filter fun v=>decide (v.k.1.op≠26)) (fun hn=>by have:=hI.row (by rw [List.take_length];exact hn);rw [List.take_length] at this;exact this) (by rw [rowVl_eq];exact a.up) a.le
  have e:(l.filter fun v=>decide (v.k.1.op≠26)).map (·.k)=memW s.w:=by unfold memW;rw [← hl,List.filter_map];rfl
  rw [e] at this
  exact this
def keepR (r:Int) (row:MRow):Bool:=decide (row.2.getD 1 0≠r)
structure RgI (B:Hp) (ρ0:Env) (W0:World) (bb mb it:Nat) (r:Int) (V:Value) (m0:MapC) (D:Nat→Prop) (H:Hp) (ρ:Env) (W:World) (m:MapC) (seen:Array Nat) (c0:Nat):Prop where
 hok:HOK Tryd.prog.globals.size H ρ W
 ext:Ext B H ρ0 ρ W0 W
 lo:B.n≤it
 hi:it < H.n
 hb:H.m bb=some ⟨⟨[.map (some mb),V]⟩,98⟩
 hm:H.m mb=some ⟨⟨[]⟩,mapE m⟩
 keep:∀ i b,B.m i=some b→i≠mb→H.m i=some b
 iter:W.heap[ρ.loc it]?=some (.mapIter (some (ρ.loc mb)) m0.clock seen c0)
 new:W0.heap.size≤ρ.loc it
 sh:ρ.sh it=0
 ok:MOK m
 clk:m.clock=m0.clock
 c0:m0.clock≤c0
 done:∀ row∈m.rows,D row.1→keepR r row=true
 filt:m.rows.filter (keepR r)=m0.rows.filter (keepR r)
theorem RgI.apart {B:Hp} {ρ0:Env} {W0:World} {bb mb it:Nat} {r:Int} {V:Value} {m0:MapC} {D:Nat→Prop} {H:Hp} {ρ:Env} {W:World} {m:MapC} {seen:Array Nat} {c0:Nat} (g:RgI B ρ0 W0 bb mb it r V m0 D H ρ W m seen c0):∀ i b,H.m i=some b→ρ.loc i≠ρ.loc it:=by
 intro i b hb e
 have hf:=g.hok.fits i b hb
 rw [e,g.iter] at hf
 rcases hf with ⟨_,_,_,hx,_⟩|⟨_,hx,_⟩<;>cases hx
theorem RgI.step {B:Hp} {ρ0:Env} {W0:World} {bb mb it:Nat} {r:Int} {V:Value} {m0:MapC} {D:Nat→Prop} {H:Hp} {ρ:Env} {W:World} {m:MapC} {seen:Array Nat} {c0:Nat} (g:RgI B ρ0 W0 bb mb it r V m0 D H ρ W m seen c0) {H':Hp} {ρ':Env} {W':World} {m':MapC} (hok':HOK Tryd.prog.globals.size H' ρ' W') (hE:Ext H H' ρ ρ' W W')
 (hb':H'.m bb=H.m bb) (hm':H'.m mb=some ⟨⟨[]⟩,mapE m'⟩) (hk:∀ i b,H.m i=some b→i≠mb→H'.m i=some b) (ok':MOK m') (clk':m'.clock=m.clock) {D':Nat→Prop} (done':∀ row∈m'.rows,D' row.1→keepR r row=true) (filt':m'.rows.filter (keepR r)=m.rows.filter (keepR r)):RgI B ρ0 W0 bb mb it r V m0 D' H' ρ' W' m' seen c0 where
 hok:=hok'
 ext:=g.ext.trans hE
 lo:=g.lo
 hi:=Nat.lt_of_lt_of_le g.hi hE.mono
 hb:=hb'.trans g.hb
 hm:=hm'
 keep i b h1 h2:=hk i b (g.keep i b h1 h2) h2
 iter:=by
  have hl:ρ.loc it < W.heap.size:=(Array.getElem?_eq_some_iff.1 g.iter).1
  rw [(hE.agree it g.hi).1,(hE.agree mb (g.hok.lt _ _ g.hm)).1,hE.kept _ hl (fun i b _ hb=>g.apart i b hb)]
  exact g.iter
 new:=by rw [(hE.agree it g.hi).1];exact g.new
 sh:=by rw [(hE.agree it g.hi).2.2];exact g.sh
 ok:=ok'
 clk:=clk'.trans g.clk
 c0:=g.c0
 done:=done'
 filt:=filt'.trans g.filt
theorem RgI.turn {B:Hp} {ρ0:Env} {W0:World} {bb mb it:Nat} {r:Int} {V:Value} {m0:MapC} {D:Nat→Prop} {H:Hp} {ρ:Env} {W:World} {m:MapC} {seen:Array Nat} {c0:Nat} (g:RgI B ρ0 W0 bb mb it r V m0 D H ρ W m seen c0) {w1:World} (hw:w1=W∨w1=W.drew) (e:Nat) :
 RgI B ρ0 W0 bb mb it r V m0 D H ρ (ChangeMaps.setBlock w1 (ρ.loc it) (.mapIter (some (ρ.loc mb)) m0.clock (seen.push e) m.clock)) m (seen.push e) m.clock:=by
 have hh:w1.heap=W.heap∧w1.tape=W.tape∧w1.os=W.os∧w1.output=W.output:=by rcases hw with rfl|rfl<;>exact ⟨rfl,rfl,rfl,rfl⟩
 obtain ⟨e1,e2,e3,e4⟩:=hh
 have hl:ρ.loc it < W.heap.size:=(Array.getElem?_eq_some_iff.1 g.iter).1
 have hoff:∀ c,c≠ρ.loc it→(ChangeMaps.setBlock w1 (ρ.loc it) (.mapIter (some (ρ.loc mb)) m0.clock (seen.push e) m.clock)).heap[c]?=W.heap[c]?:=by
  intro c hc
  simp only [ChangeMaps.setBlock,e1,Array.getElem?_setIfInBounds,if_neg (Ne.symm hc)]
 refine ⟨⟨fun i b hb=>?_,g.hok.lt,g.hok.inj,g.hok.bd,g.hok.glob,g.hok.gle,g.hok.gow⟩,⟨g.ext.agree,g.ext.mono,fun c hc hn=>?_,?_,g.ext.own,?_,?_,?_,fun i b hi hb=>?_⟩,g.lo,g.hi,g.hb,g.hm,g.keep,?_,g.new,g.sh,g.ok,g.clk,by rw [g.clk];exact Nat.le_refl _,g.done,g.filt⟩
 ·rw [hoff _ (g.apart i b hb)];exact g.hok.fits i b hb
 ·have:=g.new
  rw [hoff c (by omega)];exact g.ext.kept c hc hn
 ·have:=g.ext.size;simp [ChangeMaps.setBlock,e1];exact this
 ·show w1.tape=_;rw [e2];exact g.ext.tape
 ·show w1.os=_;rw [e3];exact g.ext.os
 ·show w1.output=_;rw [e4];exact g.ext.output
 ·obtain ⟨c,h1,h2,h3⟩:=g.ext.surv i b hi hb
  refine ⟨c,h1,h2,?_⟩
  have:=g.new
  have hne:ρ0.loc i≠ρ.loc it:=by
   intro e
   have:=g.apart i b hb
   rw [(g.ext.agree i hi).1] at this
   exact this e
  rw [hoff _ hne];exact h3
 ·simp [ChangeMaps.setBlock,e1,hl]
theorem put_free {ρ:Env} {a:Act} {d:Option Tmp} {v:Value} (hv:bnd 0 v):(renA ρ a).put d v=renA ρ (a.put d v):=by rw [put_ren,ren_free ρ v hv]
theorem ev_at {ρ:Env} {G:Nat} {a:Act} {f:Fr} {x:Operand} {v:Value} (hg:∀ g,g < G→ρ.loc g=g∧ρ.sh g=0) (g:Agr f a) (hx:f.ev x=some v) (hk:okOp G x):(renA ρ a).eval x=ren ρ v:=by rw [eval_ren hg a x hk,g.ev hx]
section
variable {o:Oper} {ev:Operand→Value} {W W':World}
theorem exec_next {x:Operand} {u v:Value} (ho:o.op=.next x false) (hx:ev x=u) (hr:(Instr.next u false o.type).run Tryd.prog W=.ok v W'):(execOp ev o).run Tryd.prog W=.ok (.value v) W':=by
 simp only [execOp,ho,hx,Sem.run_bind,hr,Result.andThen_ok,Sem.run_pure]
theorem exec_entry {x:Operand} {u v:Value} (ho:o.op=.entry x) (hx:ev x=u) (hr:(Instr.entry u).run Tryd.prog W=.ok v W'):(execOp ev o).run Tryd.prog W=.ok (.value v) W':=by
 simp only [execOp,ho,hx,Sem.run_bind,hr,Result.andThen_ok,Sem.run_pure]
theorem exec_extract {x:Operand} {i:Nat} {vs:Array Value} {v:Value} (ho:o.op=.extract x i) (hx:ev x=.tuple vs) (hi:vs[i]?=some v):(execOp ev o).run Tryd.prog W=.ok (.value v) W:=by
 simp only [execOp,ho,hx,Sem.run_bind,Instr.extract,hi,Result.andThen_ok,Sem.run_pure]
theorem exec_assign {x:Operand} {v:Value} (ho:o.op=.assign x) (hx:ev x=v):(execOp ev o).run Tryd.prog W=.ok (.value v) W:=by
 simp only [execOp,ho,hx,Sem.run_pure]
theorem plain_val {ops:Array Oper} {l:List Nat} {i:Nat} {Q:Exit→Act→World→Prop} {ρ:Env} {a:Act} {v:Value} {d:Option Tmp} (ho:ops[i]?=some o) (hg:o.guard=none) (hd:o.dst=d) (hr:(execOp (renA ρ a).eval o).run Tryd.prog W=.ok (.value v) W') (hv:bnd 0 v) (hw:wpOps Tryd.prog ops Q l (renA ρ (a.put d v)) W'):wpOps Tryd.prog ops Q (i::l) (renA ρ a) W:=by
 refine wpOps_value ho hg hr ?_
 rw [hd,put_free hv]
 exact hw
end
theorem tx_use {o:Oper} {ops:Array Oper} {l:List Nat} {i:Nat} {Q:Exit→Act→World→Prop} {ρ:Env} {a:Act} {W:World} {H H':Hp} {v:Value} {d:Option Tmp} (ho:ops[i]?=some o) (hg:o.guard=none) (hd:o.dst=d) (ht:TX Tryd.prog o a.eval H v H') {xs:List Operand} (hxs:o.op.operands.toList=xs) (hk:∀ x∈xs,okOp Tryd.prog.globals.size x) (hba:bndA H.n a) (hok:HOK Tryd.prog.globals.size H ρ W)
 (hw:∀ ρ' W',HOK Tryd.prog.globals.size H' ρ' W'→Ext H H' ρ ρ' W W'→bndA H'.n (a.put d v)→wpOps Tryd.prog ops Q l (renA ρ' (a.put d v)) W'):wpOps Tryd.prog ops Q (i::l) (renA ρ a) W:=by
 refine wpOps_run ho hg (ht (fun x hx=>eval_bnd hok.gn hba x (hk x (by rw [← hxs];simpa using hx))) ρ W hok (renA ρ a) _ Q (fun x hx=>eval_ren hok.glob a x (hk x (by rw [← hxs];simpa using hx))) fun ρ' W' hv hok' hE=>?_)
 have he:(renA ρ a).put o.dst (ren ρ' v)=renA ρ' (a.put d v):=by rw [put_ren,renA_agree hE.agree hba,hd]
 rw [he]
 exact hw ρ' W' hok' hE (put_bnd (bndA_mono hE.mono hba) _ hv)
abbrev loopF (bb it:Nat) (r:Int):List (Nat × Value):=[(18,.pointer (some ⟨it,0,none⟩)),(1,.int .i64 r),(0,.pointer (some ⟨bb,0,none⟩))]
noncomputable def chgBody:Code:=match Tryd.f73.body with
 | some (.seq _ (.seq (.seq _ (.block _ (.loop b))) _))=>b
 | _=>.skip
noncomputable def chgTail:Code:=match chgBody with
 | .seq _ (.seq _ (.block _ (.seq _ b)))=>b
 | _=>.skip
def RgA (B:Hp) (ρ0:Env) (W0:World) (bb mb it:Nat) (r:Int) (V:Value) (m0:MapC) (left:Nat→Prop) (A:Act) (W:World):Prop :=
 ∃ a ρ H m seen c0,A=renA ρ a∧bndA H.n a∧Agr ⟨loopF bb it r,71⟩ a∧RgI B ρ0 W0 bb mb it r V m0 (fun b=>seen.contains b=true) H ρ W m seen c0∧left (leftOf m.es seen).size
theorem leftOf_sub {es es':Array MapEntry} (h:es'.toList.Sublist es.toList) (seen:Array Nat):(leftOf es' seen).size≤(leftOf es seen).size:=by
 have key:∀ a:Array MapEntry,(leftOf a seen).size=(a.toList.filter fun e=>!seen.contains e.born).length:=fun a=>by
  unfold leftOf
  rw [← Array.length_toList]
  simp
 rw [key,key]
 exact (h.filter _).length_le
def strike (m:MapC) (r k:Int) (a:ArgS):MapC:=if a.reg=r then m.del k else m
set_option maxRecDepth 100000 in
theorem chg_tail (H:Hp) (sH:Sat Tryd.prog H) (bb mb it n5:Nat) (r k:Int) (a:ArgS) (V:Value) (m:MapC) (hb:H.m bb=some ⟨⟨[.map (some mb),V]⟩,98⟩) (hm:H.m mb=some ⟨⟨[]⟩,mapE m⟩) (hmr:rwM≤mb) (hs0:m.s=0) (h5:H.m n5=some ⟨⟨argC a⟩,46⟩) :
 W Tryd.prog chgTail ⟨(4,.int .i64 k)::(5,.pointer (some ⟨n5,0,none⟩))::loopF bb it r,71⟩ (SH.of H) (fun e f' h'=>e=.normal∧f'.nt=71∧AllV f'.l (loopF bb it r)∧∀ B',Absb (P:=Tryd.prog) h' B'→B'.n=H.n∧B'.m mb=some ⟨⟨[]⟩,mapE (strike m r k a)⟩∧∀ i b,H.m i=some b→i≠mb→B'.m i=some b):=by
 have h5n:=sH.dom _ _ h5
 have hbn:=sH.dom _ _ hb
 have hmn:=sH.dom _ _ hm
 unfold chgTail chgBody
 conv=>arg 2;whnf
 unfold strike
 by_cases hr:a.reg=r
 ·rw [if_pos hr]
  repeat (first|((with_reducible apply RS.load1B);(iterate 3 exact rfl);first|exact h5;exact h5n;exact rfl|exact hb;exact hbn;exact rfl)|((with_reducible apply RS.delete);(iterate 4 exact rfl);exact hm;exact hmn;exact hmr;exact hs0)|refine Y20 ?_|refine Y3 ?_|refine Y0 ?_|refine Y3y ?_|refine Y1 ?_|refine Y5 ?_)
  refine ⟨rfl,rfl,by (repeat' (first|exact trivial|exact rfl|apply And.intro));done,fun B' x=>⟨x.n,x.up _ _ ?_,fun i b hi hn=>x.up _ _ ?_⟩⟩
  ·show (if mb=mb then some _ else H.m mb)=_
   rw [if_pos rfl]
  ·show (if i=mb then some _ else H.m i)=_
   rw [if_neg hn];exact hi
 ·rw [if_neg hr]
  repeat (first|((with_reducible apply RS.load1B);(iterate 3 exact rfl);exact h5;exact h5n;exact rfl)|refine Y16 ?_|refine Y2 ?_|refine Y0 ?_|refine Y1u ?_|refine Y1 ?_|refine Y6 ?_)
  exact ⟨rfl,rfl,by (repeat' (first|exact trivial|exact rfl|apply And.intro));done,fun B' x=>⟨x.n,x.up _ _ hm,fun i b hi hn=>x.up _ _ hi⟩⟩
theorem strike_ok {m:MapC} (ok:MOK m) {r:Int} {row:MRow} (hr:row∈m.rows) {a:ArgS} (ha:row.2=rowM (keyR row) a):MOK (strike m r (keyR row) a)∧(strike m r (keyR row) a).clock=m.clock∧(strike m r (keyR row) a).rows.filter (keepR r)=m.rows.filter (keepR r)∧(strike m r (keyR row) a).rows.Sublist m.rows∧∀ x∈(strike m r (keyR row) a).rows,x.1=row.1→keepR r x=true:=by
 have hkr:keepR r row=decide (a.reg≠r):=by unfold keepR;rw [ha];rfl
 have huniq:∀ x∈m.rows,x.1=row.1→x=row:=fun x hx e=>by
  obtain ⟨i,hi⟩:=List.getElem?_of_mem hx
  obtain ⟨j,hj⟩:=List.getElem?_of_mem hr
  have h1:(m.rows.map (·.1))[i]?=some x.1:=by rw [List.getElem?_map,hi];rfl
  have h2:(m.rows.map (·.1))[j]?=some x.1:=by rw [List.getElem?_map,hj,e];rfl
  have:i=j:=nodup_idx ok.nod h1 h2
  rw [this,hj] at hi
  injection hi with hi
  exact hi.symm
 unfold strike
 by_cases h:a.reg=r
 ·rw [if_pos h]
  obtain ⟨j,h1,h2⟩:=findR_mem (i:=0) hr rfl ok.nodk
  have hd:m.del (keyR row)={ m with rows:=m.rows.eraseIdx j }:=by
   unfold MapC.del
   rw [h1];simp
  refine ⟨ok.del _,by rw [hd],?_,by rw [hd];exact List.eraseIdx_sublist _ _,fun x hx e=>?_⟩
  ·rw [hd]
   show (m.rows.eraseIdx j).filter (keepR r)=_
   have hjl:=(List.getElem?_eq_some_iff.1 h2).1
   rw [List.eraseIdx_eq_take_drop_succ]
   conv=>rhs;rw [← List.take_append_drop j m.rows,List.drop_eq_getElem_cons hjl]
   rw [List.filter_append,List.filter_append,List.filter_cons]
   have:m.rows[j]=row:=(List.getElem?_eq_some_iff.1 h2).2
   rw [this,hkr,if_neg (by simp [h])]
  ·rw [hd] at hx
   have hx:x∈m.rows.eraseIdx j:=hx
   have e1:=huniq x ((List.eraseIdx_sublist _ _).subset hx) e
   subst e1
   exfalso
   rw [List.mem_eraseIdx_iff_getElem?] at hx
   obtain ⟨i,hne,hi⟩:=hx
   have g1:(m.rows.map (·.1))[i]?=some x.1:=by rw [List.getElem?_map,hi];rfl
   have g2:(m.rows.map (·.1))[j]?=some x.1:=by rw [List.getElem?_map,h2];rfl
   exact hne (nodup_idx ok.nod g1 g2)
 ·rw [if_neg h]
  refine ⟨ok,rfl,rfl,List.Sublist.refl _,fun x hx e=>?_⟩
  rw [huniq x hx e,hkr];simpa using h
set_option maxRecDepth 100000 in
theorem chg_round {B:Hp} {ρ0:Env} {W0:World} {bb mb it:Nat} {r:Int} {V:Value} {m0:MapC} (hmr:rwM≤mb) (cnt:Nat) {A:Act} {W:World} (h:RgA B ρ0 W0 bb mb it r V m0 (fun n=>n=cnt) A W) :
 chgBody.wp Tryd.prog (fun e A' W'=>(e=.exit 0∧RgA B ρ0 W0 bb mb it r V m0 (fun n=>n=0) A' W')∨(e=.normal∧RgA B ρ0 W0 bb mb it r V m0 (fun n=>n < cnt) A' W')) A W:=by
 obtain ⟨a,ρ,H,m,seen,c0,rfl,hba,hag,hg,hl⟩:=h
 have hgl:=hg.hok.glob
 have hs0:=hg.ok.s0
 have hmw:=((hg.hok.fits _ _ hg.hm).map hmr).1
 have hesm:∀ x∈m.es.toList,∃ row∈m.rows,x=rowE 0 row:=fun x hx=>by
  rw [es_list,hs0] at hx
  obtain ⟨row,h1,h2⟩:=List.mem_map.1 hx
  exact ⟨row,h1,h2.symm⟩
 have hold:∀ x∈m.es.toList,x.born < m0.clock:=fun x hx=>by
  obtain ⟨row,h1,rfl⟩:=hesm x hx
  have:=hg.ok.low row h1
  rw [← hg.clk];exact this
 have hev:∀ (ρ:Env) (a:Act) (f:Fr),ρ.sh it=0→(∀ g,g < Tryd.prog.globals.size→ρ.loc g=g∧ρ.sh g=0)→Agr f a→f.ev (.tmp 18)=some (.pointer (some ⟨it,0,none⟩))→(renA ρ a).eval (.tmp 18)=.pointer (some ⟨ρ.loc it,0,none⟩):=fun ρ a f h1 h2 h3 h4=>by
  rw [ev_at h2 h3 (x:=.tmp 18) h4 trivial];simp [renAddr,h1]
 have hev0:=hev ρ a _ hg.sh hgl hag rfl
 unfold chgBody
 conv=>arg 2;whnf
 refine wp_seq (wp_region ?_)
 show wpOps _ _ _ [0,1] _ _
 rcases run_next_at (P:=Tryd.prog) W 0 (ρ.loc it) (ρ.loc mb) m0.clock c0 seen m.es m.clock hg.iter hmw hold hg.c0 with ⟨h0,hrun⟩|⟨e,he,w1,hw1,hrun⟩
 ·refine plain_val (d:=some 19) (v:=.tuple #[.bool false]) rfl rfl rfl (exec_next rfl hev0 hrun) (by simp) ?_
  have hag1:=hag.put (d:=some 19) rfl (.tuple #[.bool false])
  refine plain_val (d:=some 20) (v:=.bool false) rfl rfl rfl (exec_extract (vs:=#[.bool false]) rfl ((ev_at hgl hag1 (x:=.tmp 19) rfl trivial).trans (by simp)) rfl) (by simp) ?_
  have hag2:=hag1.put (d:=some 20) rfl (.bool false)
  show Code.wp _ _ _ _ _
  refine wp_seq (wp_cond (t:=false) ((ev_at hgl hag2 (x:=.tmp 20) rfl trivial).trans (by simp)) (wp_exit ?_))
  refine .inl ⟨rfl,_,ρ,H,m,seen,c0,rfl,?_,?_,hg,h0⟩
  ·exact put_bnd (put_bnd hba _ (by simp)) _ (by simp)
  ·exact hag2.weak rfl fun t v hv=>(show AllV _ _ by (repeat' (first|exact trivial|exact rfl|apply And.intro));done).get t v hv
 ·obtain ⟨hem,hes⟩:=mem_left he
  obtain ⟨row,hrow,rfl⟩:=hesm e hem
  obtain ⟨k,x,hkx,hfk,hxo⟩:=hg.ok.shape row hrow
  have hkk:keyR row=k:=by unfold keyR;rw [hkx];rfl
  have hkey:(rowE 0 row).key=.int .i64 k:=by rw [rowE_key0,hkk]
  have hval:(rowE 0 row).val=.agg ⟨argC x⟩:=by show (mapKV 0 row.2).2=_;rw [hkx];rfl
  rw [hkey,hval] at hrun
  have hg1:=hg.turn hw1 row.1
  have hpl:bnd 0 (.tuple #[.bool true,.int .i64 k,.agg ⟨argC x⟩]):=by simp [argC]
  refine plain_val (d:=some 19) (v:=.tuple #[.bool true,.int .i64 k,.agg ⟨argC x⟩]) rfl rfl rfl (exec_next rfl hev0 hrun) hpl ?_
  have hag1:=hag.put (d:=some 19) rfl (.tuple #[.bool true,.int .i64 k,.agg ⟨argC x⟩])
  refine plain_val (d:=some 20) (v:=.bool true) rfl rfl rfl (exec_extract rfl ((ev_at hgl hag1 (x:=.tmp 19) rfl trivial).trans (ren_free ρ _ hpl)) rfl) (by simp) ?_
  have hag2:=hag1.put (d:=some 20) rfl (.bool true)
  show Code.wp _ _ _ _ _
  refine wp_seq (wp_cond (t:=true) ((ev_at hgl hag2 (x:=.tmp 20) rfl trivial).trans (by simp)) (wp_skip ?_))
  show Code.wp _ _ _ _ _
  refine wp_block (wp_seq (wp_region ?_))
  show wpOps _ _ _ [0,1,2,3,4,5] _ _
  have hmw1:=((hg1.hok.fits _ _ hg1.hm).map hmr).1
  have hen:=run_entry_at (P:=Tryd.prog) _ (ρ.loc it) (ρ.loc mb) m0.clock seen m.es m.clock (rowE 0 row) hg1.iter hmw1 hem (by rw [es_list,hs0,List.map_map];exact hg.ok.nod)
  rw [hkey,hval] at hen
  have hev2:=hev ρ _ _ hg.sh hgl hag2 rfl
  have hpe:bnd 0 (.tuple #[.int .i64 k,.agg ⟨argC x⟩]):=by simp [argC]
  refine plain_val (d:=some 21) (v:=.tuple #[.int .i64 k,.agg ⟨argC x⟩]) rfl rfl rfl (exec_entry rfl hev2 hen) hpe ?_
  have hag3:=hag2.put (d:=some 21) rfl (.tuple #[.int .i64 k,.agg ⟨argC x⟩])
  refine plain_val (d:=some 22) (v:=.int .i64 k) rfl rfl rfl (exec_extract rfl ((ev_at hgl hag3 (x:=.tmp 21) rfl trivial).trans (ren_free ρ _ hpe)) rfl) (by simp) ?_
  have hag4:=hag3.put (d:=some 22) rfl (.int .i64 k)
  refine plain_val (d:=some 23) (v:=.agg ⟨argC x⟩) rfl rfl rfl (exec_extract rfl ((ev_at hgl hag4 (x:=.tmp 21) rfl trivial).trans (ren_free ρ _ hpe)) rfl) (by simp [argC]) ?_
  have hag5:=hag4.put (d:=some 23) rfl (.agg ⟨argC x⟩)
  have hx0:bnd 0 (.agg ⟨argC x⟩):=by simp [argC]
  have hup:∀ {v:Value},bnd 0 v→bnd H.n v:=fun h=>bnd_mono (Nat.zero_le _) _ h
  have hba5:=put_bnd (put_bnd (put_bnd (put_bnd (put_bnd hba (some 19) (hup hpl)) (some 20) (v:=.bool true) (by simp)) (some 21) (hup hpe)) (some 22) (v:=.int .i64 k) (by simp)) (some 23) (hup hx0)
  generalize hA5:((((a.put (some 19) (.tuple #[.bool true,.int .i64 k,.agg ⟨argC x⟩])).put (some 20) (.bool true)).put (some 21) (.tuple #[.int .i64 k,.agg ⟨argC x⟩])).put (some 22) (.int .i64 k)).put (some 23) (.agg ⟨argC x⟩)=a5 at hag5 hba5 ⊢
  refine tx_use (d:=some 5) (v:=.pointer (some ⟨H.n,0,none⟩)) (H':=H.push ⟨⟨cellsV (.agg ⟨[.int .i64 0,.int .i64 0]⟩)⟩,46⟩) rfl rfl rfl (by exact tx_alloc (t:=46) rfl) rfl (fun y hy=>by cases hy) hba5 hg1.hok fun ρ2 W2 hok2 hE2 hba6=>?_
  have hag6:=hag5.put (d:=some 5) rfl (.pointer (some ⟨H.n,0,none⟩))
  refine plain_val (d:=some 4) (v:=.int .i64 k) rfl rfl rfl (exec_assign rfl ((ev_at hok2.glob hag6 (x:=.tmp 22) rfl trivial).trans (by simp))) (by simp) ?_
  have hag7:=hag6.put (d:=some 4) rfl (.int .i64 k)
  have hba7:=put_bnd hba6 (some 4) (v:=.int .i64 k) (by simp)
  have hnw:rwM≤H.n:=hg.hok.gle
  have hpn:=push_new H ⟨⟨cellsV (.agg ⟨[.int .i64 0,.int .i64 0]⟩)⟩,46⟩
  refine tx_use (d:=none) (v:=undef) (H':=(H.push ⟨⟨cellsV (.agg ⟨[.int .i64 0,.int .i64 0]⟩)⟩,46⟩).set H.n ⟨⟨argC x⟩,46⟩) rfl rfl rfl (by exact tx_store (t:=46) (blk:=H.n) (off:=0) (v:=.agg ⟨argC x⟩) rfl (hag7.ev (x:=.tmp 5) rfl) (hag7.ev (x:=.tmp 23) rfl) hpn hnw (Nat.le_of_ble_eq_true rfl) rfl rfl) rfl (fun y hy=>by rcases List.mem_cons.1 hy with rfl|hy;trivial;rcases List.mem_cons.1 hy with rfl|hy;trivial;cases hy) hba7 hok2 fun ρ3 W3 hok3 hE3 hba8=>?_
  have hag8:=hag7.put (d:=none) rfl undef
  generalize hA8:(((a5.put (some 5) (.pointer (some ⟨H.n,0,none⟩))).put (some 4) (.int .i64 k)).put none undef)=a8 at hag8 hba8 ⊢
  have hne:∀ i b,H.m i=some b→i≠H.n:=fun i b hb e=>by have:=hg.hok.lt i b hb;omega
  obtain ⟨H3,hH3⟩:∃ H3,(H.push ⟨⟨cellsV (.agg ⟨[.int .i64 0,.int .i64 0]⟩)⟩,46⟩).set H.n ⟨⟨argC x⟩,46⟩=H3:=⟨_,rfl⟩
  have hm3:∀ j,H3.m j=if j=H.n then some ⟨⟨argC x⟩,46⟩ else H.m j:=fun j=>by
   rw [← hH3]
   show (if j=H.n then some _ else (if j=H.n then some _ else H.m j))=_
   by_cases hj:j=H.n
   ·rw [if_pos hj,if_pos hj]
   ·rw [if_neg hj,if_neg hj,if_neg hj]
  rw [hH3] at hok3 hE3 hba8
  have hkeep:∀ i b,H.m i=some b→H3.m i=some b:=fun i b hb=>by rw [hm3,if_neg (hne i b hb)];exact hb
  have hg3:=hg1.step (m':=m) (D':=fun b=>seen.contains b=true) hok3 (hE2.trans hE3) (by rw [hkeep _ _ hg.hb,hg.hb]) (hkeep _ _ hg.hm) (fun i b hb _=>hkeep i b hb) hg.ok rfl hg1.done rfl
  show Code.wp _ _ _ _ _
  have sH3:Sat Tryd.prog H3:=⟨ρ3,W3,hok3⟩
  have hden:=sH3.den
  have ht:=WN.ofW (chg_tail H3 sH3 bb mb it H.n r k x V m hg3.hb hg3.hm hmr hs0 (by rw [hm3,if_pos rfl])) a8 ρ3 W3 sH3.wf (by rw [hden];exact hok3) (by rw [hden];exact hba8) (hag8.weak rfl fun t v hv=>(show AllV _ _ by (repeat' (first|exact trivial|exact rfl|apply And.intro));done).get t v hv)
  rw [hden] at ht
  refine wp_mono (show Code.wp Tryd.prog _ _ _ _ from ht) ?_
  rintro e A W4 ⟨f4,h4,a4,ρ4,⟨rfl,hnt4,hF4,hB4⟩,w4,rfl,hba4,hag4',hok4,hE4⟩
  obtain ⟨g1,g2,g3⟩:=hB4 _ (Absb.of w4 ⟨ρ4,W4,hok4⟩)
  obtain ⟨k1,k2,k3,k4,k5⟩:=strike_ok hg.ok hrow (r:=r) (a:=x) (by rw [hkk];exact hkx)
  rw [hkk] at k1 k2 k3 k4 k5
  have hnbm:bb≠mb:=fun e=>by
   have h1:=hg3.hb
   rw [e,hg3.hm] at h1
   injection h1 with h1
   injection h1 with _ h1
   exact absurd (mapE_ge m) (by rw [h1];decide)
  have hg4:=hg3.step (m':=strike m r k x) (D':=fun b=>(seen.push row.1).contains b=true) hok4 hE4 (by rw [g3 _ _ hg3.hb hnbm,hg3.hb]) g2 g3 k1 k2 (fun y hy hs=>by
   rw [contains_push] at hs
   by_cases h1:seen.contains y.1=true
   ·exact hg.done y (k4.subset hy) h1
   ·have h1:seen.contains y.1=false:=by simpa using h1
    rw [h1] at hs
    exact k5 y hy (by simpa using hs)) k3
  refine .inr ⟨rfl,a4,ρ4,h4.den,strike m r k x,seen.push row.1,m.clock,rfl,hba4,hag4'.weak (by simp [hnt4]) fun t v hv=>hF4.get t v hv,hg4,?_⟩
  have h1:=left_shrinks m.es seen (rowE 0 row) he
  have h2:((strike m r k x).es).toList.Sublist m.es.toList:=by
   rw [es_list,es_list,k1.s0,hs0]
   exact k4.map _
  have h3:=leftOf_sub h2 (seen.push row.1)
  have h4:(leftOf m.es (seen.push row.1)).size < cnt:=by rw [← hl];exact h1
  omega
end Go.Proofs.YtjhloakacicdiaaDoor
