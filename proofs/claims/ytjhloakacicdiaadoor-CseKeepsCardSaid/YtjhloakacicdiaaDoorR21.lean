/-
  What the functions that the law reaches compute,told by plain data;it holds of programs that pass the check of right form and are light.
-/
import Derived.Test.YtjhloakacicdiaaDoorR10
import Derived.Test.YtjhloakacicdiaaDoorR14
import Derived.Test.YtjhloakacicdiaaDoorR17
import Derived.Test.YtjhloakacicdiaaDoorR20
import Derived.Test.YtjhloakacicdiaaDoorR4
import Derived.Test.YtjhloakacicdiaaDoorR9
import Derived.Test.YtjhloakacicdiaaDoorS2
set_option linter.unusedVariables false
set_option linter.unusedSimpArgs false
namespace Go.Proofs.YtjhloakacicdiaaDoor
open Go.AH
attribute [local irreducible] W RS
theorem light_show {p:ProgS} (hok:p.ok) (hl:lightP p=true) (hr:rightP p=true) {f:FuncS} (hf:f∈p.funcs):ShowB f.blocks:=by
 obtain ⟨ho,hc⟩:=light_right hok hl hr f hf
 have hfo:=hok.funcs f hf
 have hrf:∀ b∈f.blocks,b.term.kind=2→0≤b.term.op∧b.term.op < 31:=by
  intro b hb hk
  unfold rightP at hr
  simp only [Bool.and_eq_true,decide_eq_true_eq] at hr
  have h1:=List.all_eq_true.1 hr.2 f hf
  unfold funcOK at h1
  simp only [Bool.and_eq_true,decide_eq_true_eq] at h1
  have h2:=List.all_eq_true.1 h1.2 b hb
  unfold blockOK endsS at h2
  simp only [Bool.and_eq_true,decide_eq_true_eq,Bool.or_eq_true,Bool.not_eq_true',beq_eq_false_iff_ne,ne_eq] at h2
  rcases h2.2.1.2 with h3|h3
  ·exact absurd hk h3
  ·omega
 unfold lightP at hl
 simp only [Bool.and_eq_true,decide_eq_true_eq] at hl
 obtain ⟨m,hm⟩:=Option.isSome_iff_exists.1 hl.2
 obtain ⟨_,_,_,_,l6⟩:=lightF_le hm f hf
 refine ⟨fun b hb=>⟨fun x hx=>⟨(hfo.blocks b hb).ins x hx,by have:=l6 b hb x hx;omega⟩,?_⟩,ho.len,ho.size⟩
 have ht:=(hfo.blocks b hb).term
 exact ⟨ht.a,ht.b,ht.goto,ht.els,hrf b hb⟩
theorem pairR_pre {x y:Rk} (xw:x.wb=false) (xe:x.eb=none) (xvl:x.vl=[]) (xk:x.k=x.k') (xww:x.w=[]) (yw:y.wb=false) (ye:y.eb=none) (hk:x.k'≤y.k):pairR x y=true:=by
 have hb:Nat.beq x.k x.k'=true:=by rw [xk];simp
 have c1:crossB x y=true:=by
  have hall:(y.vl.all fun j=>!memL j x.w && (Nat.blt j x.k || Nat.ble x.k' j))=true:=by
   rw [List.all_eq_true]
   intro j _
   rw [xww,xk]
   by_cases h:j < x.k'
   ·have:=blt_iff.2 h;simp [memL,this]
   ·have:=ble_iff.2 (Nat.le_of_not_lt h);simp [memL,this]
  unfold crossB
  rw [hall,xw,xe,xww,ble_iff.2 hk]
  simp [noneB]
 have c2:crossB y x=true:=by
  unfold crossB
  rw [yw,ye,xvl,hb]
  simp [noneB]
 unfold pairR
 rw [c1,c2,ble_iff.2 hk,hb];rfl
theorem fsizeS_eq (bl:List BlockS):fsizeS bl=sizeS bl+bl.length:=by
 induction bl with
 | nil=>rfl
 | cons b l ih=>unfold fsizeS sizeS at *;simp only [List.length_cons,List.map_cons,List.sum_cons];omega
theorem psizeL_bd {l:List FuncS} {m:Nat} (h:∀ f∈l,fsizeS f.blocks≤m):psizeL l≤l.length * m:=by
 induction l with
 | nil=>simp [psizeL]
 | cons f l ih =>
  have h1:=h f (by simp)
  have h2:=ih fun g hg=>h g (by simp [hg])
  unfold psizeL at h2 ⊢
  simp only [List.length_cons,List.map_cons,List.sum_cons,Nat.succ_mul]
  omega
theorem light_psize {p:ProgS} (hok:p.ok) (hl:lightP p=true) (hr:rightP p=true):psizeL p.funcs≤1000000000:=by
 have hLF:=light_right hok hl hr
 have h1:=psizeL_bd (l:=p.funcs) (m:=1100000) fun f hf=>by
  rw [fsizeS_eq]
  have:=(hLF f hf).1.size
  have:=(hLF f hf).1.len
  omega
 have h2:=(lightP_all hl).nf
 have h3:=Nat.mul_le_mul_right 1100000 h2
 omega
theorem light_showOK {p:ProgS} (hok:p.ok) (hl:lightP p=true) (hr:rightP p=true) (hnm:∀ f∈p.funcs,f.name.data.size≤140737488351232):∀ f∈p.funcs,ShowOK f :=
 fun f hf=>(light_show hok hl hr hf).ok (hok.funcs f hf).params (hnm f hf)
def ofA (m:MapC) (k:Int):Option ArgS:=(findR k m.rows 0).map fun x=>⟨x.2.2.getD 1 0,x.2.2.getD 2 0⟩
def argM (m:MapC) (a:ArgS) (but:Int):ArgS :=
 if 0≤a.reg then
  match ofA m a.reg with
  | some o=>if o.reg < 0∨o.reg≠but then o else a
  | none=>a
 else a
def rowM (k:Int) (a:ArgS):List Int:=[k,a.reg,a.num]
def dropM (m:MapC) (r:Int):MapC:={ m with rows:=m.rows.filter fun row=>decide (row.2.getD 1 0≠r) }
def sameI (x y:InsS):Bool:=decide (x.op=y.op) && (decide (x.a.reg=y.a.reg) && decide (x.a.num=y.a.num)) && (decide (x.b.reg=y.b.reg) && decide (x.b.num=y.b.num)) && decide (x.size=y.size) && decide (x.signed=y.signed) && decide (x.secret=y.secret) && decide (x.ref=y.ref) && decide (x.off=y.off)
def turnB (x:InsS):Bool:=decide (x.op=3∨x.op=5∨x.op=10∨x.op=11∨x.op=12∨x.op=16∨x.op=17) && decide (x.a.reg < x.b.reg)
def turnI (x:InsS):InsS:=if turnB x=true then { x with a:=x.b,b:=x.a } else x
abbrev KnS:=InsS × Int
def findW:List KnS→InsS→Int
 | [],_=>-1
 | k::l,x=>if sameI k.1 x=true then k.2 else findW l x
def memW (w:List KnS):List KnS:=w.filter fun k=>decide (k.1.op≠26)
def keepW (r:Int) (k:KnS):Bool:=decide (k.2≠r) && decide (k.1.a.reg≠r) && decide (k.1.b.reg≠r)
structure CseS where
 m:MapC
 w:List KnS
def chgC (s:CseS) (r:Int):CseS:=⟨dropM (s.m.del r) r,s.w.filter (keepW r)⟩
def putC (s:CseS) (k:Int) (a:ArgS):CseS:=⟨s.m.put (rowM k a),s.w⟩
def fullI (m:MapC) (x:InsS):InsS:={ x with a:=argM m x.a (-1),b:=argM m x.b (-1),args:=x.args.map fun a=>argM m a (-1) }
def headI (m:MapC) (x:InsS):InsS:={ x with a:=argM m x.a x.dst,b:=argM m x.b x.dst,args:=x.args.map fun a=>argM m a (-1) }
def foundW (s:CseS) (x:InsS):Int :=
 if findW s.w (turnI (fullI s.m x)) < 0 then findW s.w (turnI (headI s.m x)) else findW s.w (turnI (fullI s.m x))
def insX (s:CseS) (x:InsS):InsS :=
 if x.op=2∨x.op=1 then headI s.m x
 else if x.op=27∨x.op=28∨x.op=29 then headI s.m x
 else if x.op=30 then headI s.m x
 else if 0≤foundW s x then plainI 2 x.dst ⟨foundW s x,0⟩
 else turnI (headI s.m x)
def insM (s:CseS) (x:InsS):CseS :=
 if x.op=2∨x.op=1 then (if (headI s.m x).a.reg≠x.dst then putC (chgC s x.dst) x.dst (headI s.m x).a else chgC s x.dst)
 else if x.op=27∨x.op=28∨x.op=29 then (if 0≤x.dst then chgC ⟨s.m,memW s.w⟩ x.dst else ⟨s.m,memW s.w⟩)
 else if x.op=30 then s
 else if 0≤foundW s x then (if foundW s x≠x.dst then putC (chgC s x.dst) x.dst ⟨foundW s x,0⟩ else s)
 else if (turnI (headI s.m x)).a.reg≠x.dst∧(turnI (headI s.m x)).b.reg≠x.dst then ⟨(chgC s x.dst).m,(chgC s x.dst).w++[(turnI (headI s.m x),x.dst)]⟩
 else chgC s x.dst
def insMs:CseS→List InsS→List InsS
 | _,[]=>[]
 | s,x::l=>insX s x::insMs (insM s x) l
def cse0:CseS:=⟨⟨0,0,[]⟩,[]⟩
def termM (m:MapC) (t:TermS):TermS:={ t with a:=argM m t.a (-1),b:=argM m t.b (-1) }
def blockM (b:BlockS):BlockS:=⟨insMs cse0 b.ins,termM (b.ins.foldl insM cse0).m b.term⟩
def cseF (f:FuncS):FuncS:={ f with blocks:=f.blocks.map blockM }
structure MOK (m:MapC):Prop where
 s0:m.s=0
 shape:∀ r∈m.rows,∃ k a,r.2=rowM k a∧fitI k∧a.ok
 nod:(m.rows.map (·.1)).Nodup
 low:∀ r∈m.rows,r.1 < m.clock
 nodk:(m.rows.map keyR).Nodup
theorem MOK.empty:MOK ⟨0,0,[]⟩:=⟨rfl,(fun r h=>by cases h),(by simp),(fun r h=>by cases h),(by simp)⟩
theorem MOK.sub {m:MapC} (h:MOK m) {l:List MRow} (hs:l.Sublist m.rows):MOK { m with rows:=l } :=
 ⟨h.s0,fun r hr=>h.shape r (hs.subset hr),(hs.map _).nodup h.nod,fun r hr=>h.low r (hs.subset hr),(hs.map _).nodup h.nodk⟩
theorem MOK.del {m:MapC} (h:MOK m) (n:Int):MOK (m.del n):=by
 unfold MapC.del
 split
 ·exact h.sub (List.eraseIdx_sublist _ _)
 ·exact h
theorem MOK.drop {m:MapC} (h:MOK m) (n:Int):MOK (dropM m n):=h.sub List.filter_sublist
theorem modify_map {α β:Type} (f:α→α) (g:α→β) (hg:∀ a,g (f a)=g a):∀ (l:List α) (i:Nat),(l.modify i f).map g=l.map g:=by
 intro l i
 apply List.ext_getElem?
 intro j
 simp only [List.getElem?_map,List.getElem?_modify]
 cases l[j]? with
 | none=>rfl
 | some a=>by_cases h:i=j<;>simp [h,hg]
theorem modify_mem {α:Type} {f:α→α} {l:List α} {i:Nat} {a:α} (h:a∈l.modify i f):a∈l∨∃ b∈l,a=f b:=by
 obtain ⟨j,hj⟩:=List.getElem?_of_mem h
 rw [List.getElem?_modify] at hj
 cases hl:l[j]? with
 | none=>rw [hl] at hj;cases hj
 | some b =>
  rw [hl] at hj
  have hb:=List.mem_of_getElem? hl
  by_cases e:i=j
  ·simp [e] at hj;exact .inr ⟨b,hb,hj.symm⟩
  ·simp [e] at hj;exact .inl (hj ▸ hb)
theorem findR_none {n:Int}:∀ {l:List MRow} {i:Nat},findR n l i=none→∀ r∈l,n≠keyR r:=by
 intro l
 induction l with
 | nil=>intro i _ r hr;cases hr
 | cons a l ih =>
  intro i h r hr
  rw [findR] at h
  split at h
  ·cases h
  ·rcases List.mem_cons.1 hr with rfl|hr
   ·assumption
   ·exact ih h r hr
theorem findR_mem {n:Int}:∀ {l:List MRow} {i:Nat} {r:MRow},r∈l→n=keyR r→(l.map keyR).Nodup→∃ j,findR n l i=some (i+j,r)∧l[j]?=some r:=by
 intro l
 induction l with
 | nil=>intro i r hr;cases hr
 | cons a l ih =>
  intro i r hr hn hd
  rw [List.map_cons,List.nodup_cons] at hd
  rcases List.mem_cons.1 hr with rfl|hr
  ·exact ⟨0,by rw [findR,if_pos hn];rfl,rfl⟩
  ·have hne:n≠keyR a:=fun e=>hd.1 (by rw [← e,hn];exact List.mem_map.2 ⟨r,hr,rfl⟩)
   obtain ⟨j,h1,h2⟩:=ih (i:=i+1) hr hn hd.2
   exact ⟨j+1,by rw [findR,if_neg hne,h1];simp only [Option.some.injEq,Prod.mk.injEq,and_true];omega,h2⟩
theorem MOK.put {m:MapC} (h:MOK m) {k:Int} {a:ArgS} (hk:fitI k) (ha:a.ok):MOK (m.put (rowM k a)):=by
 unfold MapC.put
 split
 ·rename_i x hx
  obtain ⟨_,hx2,hx3⟩:=findR_some hx
  rw [Nat.sub_zero] at hx2
  refine ⟨h.s0,fun r hr=>?_,?_,fun r hr=>?_,?_⟩
  ·rcases modify_mem hr with hr|⟨b,hb,rfl⟩
   ·exact h.shape r hr
   ·exact ⟨k,a,rfl,hk,ha⟩
  ·show ((m.rows.modify x.1 fun e=>(e.1,rowM k a)).map (·.1)).Nodup
   rw [modify_map (fun e:MRow=>(e.1,rowM k a)) (fun e:MRow=>e.1) (fun _=>rfl)];exact h.nod
  ·rcases modify_mem hr with hr|⟨b,hb,rfl⟩
   ·exact h.low r hr
   ·exact h.low b hb
  ·show ((m.rows.modify x.1 fun e=>(e.1,rowM k a)).map keyR).Nodup
   have e:(m.rows.modify x.1 fun e=>(e.1,rowM k a)).map keyR=m.rows.map keyR:=by
    apply List.ext_getElem?
    intro j
    simp only [List.getElem?_map,List.getElem?_modify]
    by_cases hj:x.1=j
    ·subst hj
     rw [hx2]
     simp only [if_true]
     exact congrArg some hx3
    ·simp [hj]
   rw [e];exact h.nodk
 ·rename_i hx
  refine ⟨h.s0,fun r hr=>?_,?_,fun r hr=>?_,?_⟩
  ·rcases List.mem_append.1 hr with hr|hr
   ·exact h.shape r hr
   ·simp only [List.mem_singleton] at hr
    subst hr
    exact ⟨k,a,rfl,hk,ha⟩
  ·show ((m.rows++[(m.clock,rowM k a)]).map _).Nodup
   rw [List.map_append,List.nodup_append]
   refine ⟨h.nod,by simp,fun x hx y hy e=>?_⟩
   obtain ⟨r,hr,rfl⟩:=List.mem_map.1 hx
   simp at hy
   have:=h.low r hr
   omega
  ·show r.1 < m.clock+1
   rcases List.mem_append.1 hr with hr|hr
   ·have:=h.low r hr;omega
   ·simp only [List.mem_singleton] at hr
    subst hr;exact Nat.lt_succ_self _
  ·show ((m.rows++[(m.clock,rowM k a)]).map keyR).Nodup
   rw [List.map_append,List.nodup_append]
   refine ⟨h.nodk,by simp,fun x hx' y hy e=>?_⟩
   obtain ⟨r,hr,rfl⟩:=List.mem_map.1 hx'
   simp only [List.map_cons,List.map_nil,List.mem_singleton] at hy
   subst hy
   exact findR_none hx r hr e.symm
theorem ofA_ok {m:MapC} (h:MOK m) {k:Int} {o:ArgS} (ho:ofA m k=some o):o.ok:=by
 unfold ofA at ho
 cases hf:findR k m.rows 0 with
 | none=>rw [hf] at ho;cases ho
 | some x =>
  rw [hf] at ho
  obtain ⟨_,h2,_⟩:=findR_some hf
  obtain ⟨k',a,e,_,ha⟩:=h.shape x.2 (List.mem_of_getElem? h2)
  simp only [Option.map_some,Option.some.injEq,e,rowM] at ho
  subst ho
  exact ha
theorem argM_ok {m:MapC} (h:MOK m) {a:ArgS} (ha:a.ok) (but:Int):(argM m a but).ok:=by
 unfold argM
 split
 ·split
  ·rename_i o ho
   split
   ·exact ofA_ok h ho
   ·exact ha
  ·exact ha
 ·exact ha
theorem get_of {m:MapC} (h:MOK m) (z:ArgS) (k:Int):m.get (.agg ⟨argC z⟩) k=.tuple #[.agg ⟨argC ((ofA m k).getD z)⟩,.bool (ofA m k).isSome]:=by
 unfold MapC.get ofA
 cases hf:findR k m.rows 0 with
 | none=>rfl
 | some x =>
  obtain ⟨_,h2,_⟩:=findR_some hf
  obtain ⟨k',a,e,_,ha⟩:=h.shape x.2 (List.mem_of_getElem? h2)
  simp only [rowE,mapKV,e,rowM,Option.map_some,Option.getD_some,Option.isSome_some,argC]
  rfl
theorem nodup_idx {α:Type}:∀ {l:List α},l.Nodup→∀ {i j:Nat} {x:α},l[i]?=some x→l[j]?=some x→i=j
 | [],_,i,j,x,h,_=>by simp at h
 | a::l,h,0,0,x,_,_=>rfl
 | a::l,h,0,j+1,x,h1,h2=>by
  simp only [List.getElem?_cons_zero,Option.some.injEq,List.getElem?_cons_succ] at h1 h2
  rw [h1] at h
  exact absurd (List.mem_of_getElem? h2) (List.nodup_cons.1 h).1
 | a::l,h,i+1,0,x,h1,h2=>by
  simp only [List.getElem?_cons_zero,Option.some.injEq,List.getElem?_cons_succ] at h1 h2
  rw [h2] at h
  exact absurd (List.mem_of_getElem? h1) (List.nodup_cons.1 h).1
 | a::l,h,i+1,j+1,x,h1,h2=>by
  simp only [List.getElem?_cons_succ] at h1 h2
  rw [nodup_idx (List.nodup_cons.1 h).2 h1 h2]
theorem turnI_a (x:InsS):(turnI x).args=x.args:=by unfold turnI;split<;>rfl
theorem turnI_op (x:InsS):(turnI x).op=x.op:=by unfold turnI;split<;>rfl
theorem turnI_dst (x:InsS):(turnI x).dst=x.dst:=by unfold turnI;split<;>rfl
def CseR (f f':FuncS):Prop:=f'=cseF f
instance tyP_arg:TyP Tryd.prog 46 [.int .i64,.int .i64]:=⟨by kernel_rfl⟩
theorem eq_args (a b:ArgS):eqVs [.int .i64,.int .i64] (argC a) (argC b)=some (decide (a.reg=b.reg) && decide (a.num=b.num)):=by
 unfold argC
 show some ((a.reg == b.reg) && ((a.num == b.num) && true))=_
 rw [Bool.and_true]
 rfl
set_option maxRecDepth 100000 in
theorem same_tf (x y:InsS) (A:Option Addr) (c:Nat) (A':Option Addr) (c':Nat) (h:Hp):TF Tryd.prog 91 ⟨[.agg ⟨insC x A c⟩,.agg ⟨insC y A' c'⟩]⟩ h (.bool (sameI x y)) h:=by
 refine TF.still (fn:=Tryd.f91) (c:=(Tryd.f91.body.getD .skip)) Tryd.func91 (by kernel_rfl) Tryd.ntmps91 (by kernel_rfl) (by simp) ?_
 conv=>arg 2;whnf
 repeat' (first|((with_reducible apply RS.eqlAgg);(iterate 4 exact rfl);first|exact eq_args x.a y.a|exact eq_args x.b y.b)|((with_reducible apply RS.boolEql);iterate 4 exact rfl)|refine Y2l ?_|refine Yf ?_|refine Y8 ?_|refine Yt ?_|refine Y7 ?_|refine Ya ?_|refine Ym ?_|refine Y0 ?_|refine Y18 ?_|refine Y1 ?_|((refine YD ?_ ?_)<;>intro _)|((refine YG ?_ ?_)<;>intro _)|((refine YC ?_ ?_)<;>intro _)|((refine YN ?_ ?_)<;>intro _))
 all_goals refine endsK_ret _ (.cons (.tmp rfl) .nil) ⟨rfl,?_⟩
 all_goals simp [resultOf,sameI, *]
 all_goals rfl
theorem turn_bd {n:Nat} (x:InsS) {A:Option Addr} {c:Nat} (hA:∀ a,A=some a→a.block < n):bnd n (.agg ⟨insC x A c⟩):=by
 rw [bnd_agg]
 intro v hv
 exact insC_bd _ hA v (by simpa using hv)
set_option maxRecDepth 100000 in
theorem turned_tf (x:InsS) (A:Option Addr) (c:Nat) (h:Hp) (hA:∀ a,A=some a→a.block < h.n):TF Tryd.prog 75 ⟨[.agg ⟨insC x A c⟩]⟩ h (.agg ⟨insC (turnI x) A c⟩) h:=by
 refine TF.exact (fn:=Tryd.f75) (c:=(Tryd.f75.body.getD .skip)) Tryd.func75 (by kernel_rfl) Tryd.ntmps75 (by kernel_rfl) (fun s0=>⟨Nat.le_refl _,turn_bd _ hA,fun i b hb=>⟨s0.dom i b hb,s0.bd i b hb⟩⟩) fun π s0=>?_
 conv=>arg 2;whnf
 unfold turnI turnB
 repeat' (first|refine Y1e ?_|refine Yj ?_|refine Yt ?_|refine Y7 ?_|refine Ya ?_|refine Y4 ?_|refine Yd ?_|refine Y0 ?_|refine Y39 ?_|refine Y1 ?_|refine Y5 ?_|((refine YD ?_ ?_)<;>intro _)|((refine YG ?_ ?_)<;>intro _)|((refine YC ?_ ?_)<;>intro _)|((refine YN ?_ ?_)<;>intro _))
 all_goals refine endsK_ret _ (.cons (.cellN rfl rfl rfl (Nat.le_of_ble_eq_true rfl)) .nil) fun B' a=>⟨?_,a.up⟩
 all_goals first
  | (rw [if_pos (by simp only [Bool.and_eq_true,decide_eq_true_eq];omega)];rfl)
  | (rw [if_neg (by simp only [Bool.and_eq_true,decide_eq_true_eq];omega)];rfl)
structure KnV where
 k:KnS
 A:Option Addr
 c:Nat
def knC (v:KnV):List Value:=insC v.k.1 v.A v.c++[.int .i64 v.k.2]
theorem knC_len (v:KnV):(knC v).length=13:=rfl
def rowK (l:List KnV):List (List Value):=l.map knC
theorem rowK_len (l:List KnV):∀ c∈rowK l,c.length=13:=by
 intro c hc
 obtain ⟨v,_,rfl⟩:=List.mem_map.1 hc
 rfl
theorem rowK_flat (l:List KnV):(rowK l).flatten.length=l.length * 13:=by
 rw [flat_len (rowK_len l)];simp [rowK]
theorem rowK_at {l:List KnV} {i:Nat} {v:KnV} (h:l[i]?=some v):takeV (0+i * 13) 13 (rowK l).flatten=knC v:=by
 rw [takeV_eq]
 apply List.ext_getElem?
 intro j
 rw [List.getElem?_take]
 split
 ·rename_i hj
  rw [List.getElem?_drop,Nat.zero_add,flat_get (rowK_len l) i j hj]
  unfold rowK
  rw [List.getElem?_map,h];rfl
 ·rename_i hj
  rw [List.getElem?_eq_none (by rw [knC_len];omega)]
structure CseAt (h:Hp) (N bb mb:Nat) (s:CseS):Prop where
 rw:rwM≤N
 gb:N≤bb
 gm:N≤mb
 hm:h.m mb=some ⟨⟨[]⟩,mapE s.m⟩
 ok:MOK s.m
 row:∃ (r:Nat) (l:List KnV),l.map (·.k)=s.w∧h.m bb=some ⟨⟨[.map (some mb),rowVl 13 r (rowK l)]⟩,98⟩∧(l≠[]→N≤r∧h.m r=some ⟨⟨(rowK l).flatten⟩,130⟩)
theorem CseAt.up {h H:Hp} {N bb mb:Nat} {s:CseS} (o:CseAt h N bb mb s) (hu:∀ i b,h.m i=some b→H.m i=some b):CseAt H N bb mb s:=by
 obtain ⟨r,l,h1,h2,h3⟩:=o.row
 exact ⟨o.rw,o.gb,o.gm,hu _ _ o.hm,o.ok,r,l,h1,hu _ _ h2,fun hl=>⟨(h3 hl).1,hu _ _ (h3 hl).2⟩⟩
set_option maxRecDepth 100000 in
theorem carg_tf (a:ArgS) (but:Int) (h:Hp) (N bb mb:Nat) (s:CseS) (o:CseAt h N bb mb s):TF Tryd.prog 55 ⟨[.pointer (some ⟨bb,0,none⟩),.agg ⟨argC a⟩,.int .i64 but]⟩ h (.agg ⟨argC (argM s.m a but)⟩) h:=by
 refine TF.dom fun hd=>?_
 obtain ⟨r,l,hl,hB,hR⟩:=o.row
 have hBn:=hd _ _ hB
 have hM:=o.hm
 have hMn:=hd _ _ hM
 have hMr:=Nat.le_trans o.rw o.gm
 have hs0:=o.ok.s0
 have hbm:bnd h.n (.map (some mb)):=by simpa using hMn
 have hget:=get_of o.ok ⟨0,0⟩ a.reg
 unfold argM
 generalize ofA s.m a.reg=q at hget ⊢
 cases q with
 | none =>
  simp only [Option.getD_none,Option.isSome_none] at hget
  refine TF.still (fn:=Tryd.f55) (c:=(Tryd.f55.body.getD .skip)) Tryd.func55 (by kernel_rfl) Tryd.ntmps55 (by kernel_rfl) (by simp [argC]) ?_
  conv=>arg 2;whnf
  repeat' (first|refine Y3d ?_|refine Y54 ?_|refine Y2y ?_|refine Y8 ?_|refine Yj ?_|refine Y4h ?_|refine Y7 ?_|refine Ya ?_|refine Y4 ?_|refine Yd ?_|refine Ym ?_|refine Y0 ?_|refine Y2a ?_|refine Y1 ?_|refine Y6 ?_|((refine YD ?_ ?_)<;>intro _)|((refine YG ?_ ?_)<;>intro _)|((refine YC ?_ ?_)<;>intro _)|((refine YN ?_ ?_)<;>intro _))
  all_goals refine endsK_ret _ (.cons (.cellN rfl rfl rfl (Nat.le_of_ble_eq_true rfl)) .nil) ⟨rfl,?_⟩
  all_goals split<;>rfl
 | some q =>
  simp only [Option.getD_some,Option.isSome_some] at hget
  refine TF.still (fn:=Tryd.f55) (c:=(Tryd.f55.body.getD .skip)) Tryd.func55 (by kernel_rfl) Tryd.ntmps55 (by kernel_rfl) (by simp [argC]) ?_
  conv=>arg 2;whnf
  repeat' (first|refine Y3d ?_|refine Y54 ?_|refine Y2y ?_|refine Yf ?_|refine Y8 ?_|refine Yj ?_|refine Yt ?_|refine Y4h ?_|refine Y7 ?_|refine Ya ?_|refine Y4 ?_|refine Yd ?_|refine Ym ?_|refine Y0 ?_|refine Y2h ?_|refine Y1 ?_|refine Y5 ?_|((refine YD ?_ ?_)<;>intro _)|((refine YG ?_ ?_)<;>intro _)|((refine YC ?_ ?_)<;>intro _)|((refine YN ?_ ?_)<;>intro _))
  all_goals refine endsK_ret _ (.cons (.cellN rfl rfl rfl (Nat.le_of_ble_eq_true rfl)) .nil) ⟨rfl,?_⟩
  all_goals first
   | (rw [if_neg (by assumption)];rfl)
   | (rw [if_pos (by assumption)];dsimp only;first|(rw [if_pos (by simp_all)];rfl)|(rw [if_neg (by simp_all)];rfl))
theorem findW_drop {w:List KnS} {i:Nat} {k:KnS} (h:w[i]?=some k) (x:InsS):findW (w.drop i) x=if sameI k.1 x=true then k.2 else findW (w.drop (i+1)) x:=by
 obtain ⟨hl,he⟩:=List.getElem?_eq_some_iff.1 h
 rw [List.drop_eq_getElem_cons hl,he,findW]
set_option maxRecDepth 100000 in
theorem find_tf (x:InsS) (A:Option Addr) (c:Nat) (h:Hp) (N bb mb:Nat) (s:CseS) (hw:s.w.length≤1000000000) (o:CseAt h N bb mb s):TF Tryd.prog 76 ⟨[.pointer (some ⟨bb,0,none⟩),.agg ⟨insC x A c⟩]⟩ h (.int .i64 (findW s.w x)) h:=by
 obtain ⟨r,l,hl,hB0,hR⟩:=o.row
 have hll:l.length=s.w.length:=by rw [← hl];simp
 refine TF.exact (fn:=Tryd.f76) (c:=(Tryd.f76.body.getD .skip)) Tryd.func76 (by kernel_rfl) Tryd.ntmps76 (by kernel_rfl) (fun s0=>⟨Nat.le_refl _,by simp,fun i b hb=>⟨s0.dom i b hb,s0.bd i b hb⟩⟩) fun π s0=>?_
 conv=>arg 2;whnf
 have hd:=s0.dom
 have hB:=hB0
 have hBn:=hd _ _ hB
 rw [rowVl_eq] at hB
 have hrl:(rowK l).length=l.length:=by simp [rowK]
 ((with_reducible apply W.seq);repeat (first|refine Y2r ?_|refine Y0 ?_|refine Y1 ?_|refine Y12 ?_))
 ((with_reducible apply W.seq);repeat (fail))
 ((with_reducible apply W.seq);repeat (first|refine Y3x ?_|refine Y21 ?_|refine Y0 ?_|refine Y1 ?_|refine Y47 ?_))
 rw [hrl]
 refine W.loopN (X:=Nat) (fun i=>[(0,.pointer (some ⟨bb,0,none⟩)),(10,.slice (if rowK l=[] then none else some ⟨r,0,none⟩) l.length (if rowK l=[] then 0 else capOf 13)),(11,.int .i64 (l.length:Int)),(12,.int .i64 (i:Int)),(3,.pointer (some ⟨π 0,0,none⟩))])
  (fun i B=>i≤l.length∧(∀ j b,h.m j=some b→B.m j=some b)∧findW s.w x=findW (s.w.drop i) x∧B.m (π 0)=some ⟨⟨insC x A c⟩,58⟩) (fun i=>l.length - i)
  (fun B' a=>⟨0,by (repeat' (first|exact trivial|exact rfl|apply And.intro));done,⟨Nat.zero_le _,a.up,rfl,a.loc 0 (by decide:(0:Nat) < 1)⟩⟩) ?_
 rintro i B π1 sB ⟨hi,hu,hf,hx⟩
 have hxn:=sB.dom _ _ hx
 by_cases hlt:i < l.length
 ·obtain ⟨v,hv⟩:∃ v,l[i]?=some v:=⟨_,List.getElem?_eq_getElem hlt⟩
  have hwv:s.w[i]?=some v.k:=by rw [← hl,List.getElem?_map,hv];rfl
  have hne:l≠[]:=by intro e;rw [e] at hlt;exact absurd hlt (Nat.not_lt_zero _)
  have hne2:rowK l≠[]:=by intro e;rw [e] at hrl;exact hne (List.length_eq_zero_iff.1 hrl.symm)
  have hr:=hu _ _ (hR hne).2
  have hrn:=sB.dom _ _ hr
  have hle:0+i * 13+13≤(rowK l).flatten.length:=by rw [rowK_flat];omega
  rw [if_neg hne2,if_neg hne2]
  rw [findW_drop hwv] at hf
  obtain ⟨sm,hsm⟩:∃ b,sameI v.k.1 x=b:=⟨_,rfl⟩
  cases sm with
  | true =>
   repeat (first|refine Y9 ?_|refine Y3y ?_|refine Y4r ?_|refine Y4x ?_|refine Y3 ?_|refine Y7 ?_|refine Ya ?_|refine Y4 ?_|refine Yd ?_|refine Y0 ?_|(with_reducible first|apply W.seq|apply W.block|apply W.ret|apply W.skip|apply thenK_n|apply thenK_r|apply blockK_r|apply roundN_r)|refine Y1 ?_|refine Y5 ?_)
   rw [hsm,if_pos rfl] at hf
   exact endsK_ret _ (.cons (.tmp rfl) .nil) fun B' a=>⟨by rw [hf];rfl,fun j b hb=>a.up _ _ (hu _ _ hb)⟩
  | false =>
   repeat (first|refine Y9 ?_|refine Y3y ?_|refine Y4r ?_|refine Y1a ?_|refine Y3 ?_|refine Yb ?_|refine Ya ?_|refine Y4 ?_|refine Yd ?_|refine Y0 ?_|refine Yg ?_|refine Y1 ?_|refine Y5 ?_|refine Y6 ?_)
   rw [hsm,if_neg (by decide)] at hf
   exact roundN_n rfl fun B' a=>⟨i+1,by (repeat' (first|exact trivial|exact rfl|apply And.intro));done,⟨hlt,fun j b hb=>a.up _ _ (hu _ _ hb),hf,a.up _ _ hx⟩,by omega⟩
 ·have hil:i=l.length:=by omega
  subst hil
  repeat (first|refine Y14 ?_|refine Y2 ?_|refine Y0 ?_|refine Y20 ?_|refine Y1 ?_|refine Y6 ?_|refine Yi ?_)
  rw [hll,List.drop_length] at hf
  exact endsK_ret _ (.cons (.tmp rfl) .nil) fun B' a=>⟨by rw [hf];rfl,fun j b hb=>a.up _ _ (hu _ _ hb)⟩
end Go.Proofs.YtjhloakacicdiaaDoor
