/-
  What the functions that the law reaches compute,told by plain data;it holds of programs that pass the check of right form and are light.
-/
import Derived.Test.YtjhloakacicdiaaDoorR1
import Derived.Test.YtjhloakacicdiaaDoorR9
import Derived.Test.YtjhloakacicdiaaDoorS2
set_option linter.unusedVariables false
set_option linter.unusedSimpArgs false
namespace Go.Proofs.YtjhloakacicdiaaDoor
open Go.AH
structure FactS where
 kind:Int
 n:Int
def anyF:FactS:=⟨2,0⟩
def noF:FactS:=⟨0,0⟩
def numF (n:Int):FactS:=⟨1,n⟩
def meetF (a b:FactS):FactS:=if a.kind=0 then b else if b.kind=0 then a else if a.kind=1∧b.kind=1∧a.n=b.n then a else anyF
def ofF (l:List FactS) (a:ArgS):FactS:=if a.reg < 0 then numF a.num else (l[a.reg.toNat]?).getD anyF
def twoF (op:Int) (a b:FactS):FactS :=
 if a.kind=1∧b.kind=1 then (if (reckonS op a.n b.n).2=true then numF (reckonS op a.n b.n).1 else anyF)
 else if a.kind≠2∧b.kind≠2 then noF else anyF
def resultF (l:List FactS) (x:InsS):FactS :=
 if x.op=1∨x.op=2 then ofF l x.a
 else if x.op=22∧(ofF l x.a).kind=1 then numF (widenS (ofF l x.a).n x.size x.signed)
 else if x.op=22∧(ofF l x.a).kind=0 then noF
 else if twoS x.op=true then twoF x.op (ofF l x.a) (ofF l x.b)
 else anyF
def stepF (l:List FactS) (x:InsS):List FactS:=if 0≤x.dst then l.set x.dst.toNat (resultF l x) else l
def nextF (t:TermS) (l:List FactS):List Int :=
 if t.kind≠2 then nextS t
 else if (ofF l t.a).kind≠1∨(ofF l t.b).kind≠1 then nextS t
 else if holdsS t.op (ofF l t.a).n (ofF l t.b).n=true then [t.goto] else [t.els]
def meetL:List FactS→List FactS→List FactS
 | a::l,b::m=>meetF a b::meetL l m
 | l,_=>l
def sameF (a b:FactS):Bool:=decide (a.kind=b.kind) && decide (a.n=b.n)
def sameL:List FactS→List FactS→Bool
 | a::l,b::m=>sameF a b && sameL l m
 | _,_=>true
structure SolS where
 ins:List (List FactS)
 seen:List Bool
 work:List Int
def reachF (l:List FactS) (s:SolS) (k:Int):SolS :=
 if s.seen[k.toNat]?.getD false=true then
  if sameL (meetL (s.ins[k.toNat]?.getD []) l) (s.ins[k.toNat]?.getD [])=true then s
  else ⟨s.ins.set k.toNat (meetL (s.ins[k.toNat]?.getD []) l),s.seen,k::s.work⟩
 else ⟨s.ins.set k.toNat l,s.seen.set k.toNat true,k::s.work⟩
def outF (bl:List BlockS) (s:SolS) (k:Int):List FactS:=match bl[k.toNat]? with
 | some b=>b.ins.foldl stepF (s.ins[k.toNat]?.getD [])
 | none=>[]
def roundF (bl:List BlockS) (s:SolS) (k:Int):SolS:=match bl[k.toNat]? with
 | some b=>(nextF b.term (outF bl s k)).foldl (reachF (outF bl s k)) s
 | none=>s
inductive SolRun (bl:List BlockS):SolS→SolS→Prop
 | stop {s:SolS} (h:s.work=[]):SolRun bl s s
 | go {s s':SolS} {k:Int} {w:List Int} (h:s.work=k::w) (hr:SolRun bl (roundF bl ⟨s.ins,s.seen,w⟩ k) s'):SolRun bl s s'
def sol0 (n:Nat) (regs:Int):SolS:=reachF (List.replicate regs.toNat anyF) ⟨List.replicate n [],List.replicate n false,[]⟩ 0
def argF (l:List FactS) (a:ArgS):ArgS:=if (ofF l a).kind=1 then ⟨-1,(ofF l a).n⟩ else a
def plainI (op dst:Int) (a:ArgS):InsS:=⟨op,dst,a,zeroA,0,false,false,0,0,[]⟩
def simpleF (x:InsS):InsS :=
 if 3≤x.op∧x.op≤15∧x.b.reg < 0 then
  if x.b.num=0∧(x.op=3∨x.op=4∨x.op=11∨x.op=12∨13≤x.op) then plainI 2 x.dst x.a
  else if x.b.num=0∧(x.op=5∨x.op=10) then plainI 1 x.dst ⟨-1,0⟩
  else if x.b.num=1∧(x.op=5∨x.op=6∨x.op=7) then plainI 2 x.dst x.a
  else x
 else x
def resF (l:List FactS) (x:InsS):FactS:=if 0≤x.dst then resultF l x else anyF
def knownF (l:List FactS) (x:InsS):InsS :=
 if (resF l x).kind=1∧pureS x.op=true then plainI 1 x.dst ⟨-1,(resF l x).n⟩ else { x with a:=argF l x.a,b:=argF l x.b,args:=x.args.map (argF l) }
def insF (l:List FactS) (x:InsS):InsS:=simpleF (knownF l x)
def insFs:List FactS→List InsS→List InsS
 | _,[]=>[]
 | l,x::xs=>insF l x::insFs (stepF l x) xs
def argsT (l:List FactS) (t:TermS):TermS:={ t with a:=argF l t.a,b:=argF l t.b }
def termF (l:List FactS) (t:TermS):TermS :=
 match nextF (argsT l t) l with
 | [k]=>if t.kind=2 then jumpT k else argsT l t
 | _=>argsT l t
def blockF (l:List FactS) (b:BlockS):BlockS:=⟨insFs l b.ins,termF (b.ins.foldl stepF l) b.term⟩
def foldB:List BlockS→List (List FactS)→List Bool→List BlockS
 | b::bl,l::ls,s::ss=>(if s=true then blockF l b else b)::foldB bl ls ss
 | bl,_,_=>bl
inductive FoldS (regs:Int) (bl:List BlockS):List BlockS→Prop
 | mk {s:SolS} (h:SolRun bl (sol0 bl.length regs) s):FoldS regs bl (foldB bl s.ins s.seen)
def leF (a b:FactS):Prop:=a.kind=0∨b.kind=2∨a=b
structure LeL (l m:List FactS):Prop where
 len:l.length=m.length
 le:∀ (i:Nat) (a b:FactS),l[i]?=some a→m[i]?=some b→leF a b
structure SolW (n r:Nat) (s:SolS):Prop where
 ins:s.ins.length=n
 seen:s.seen.length=n
 wid:∀ (k:Nat) (l:List FactS),s.ins[k]?=some l→s.seen[k]?=some true→l.length=r
 work:∀ k∈s.work,0≤k∧k < n∧s.seen[k.toNat]?=some true
structure SolUp (s t:SolS):Prop where
 seen:∀ k:Nat,s.seen[k]?=some true→t.seen[k]?=some true
 work:∀ k∈s.work,k∈t.work
 new:∀ k:Nat,t.seen[k]?=some true→(k:Int) ∉ t.work→s.seen[k]?=some true∧t.ins[k]?=s.ins[k]?
 up:∀ (k:Nat) (l m:List FactS),s.seen[k]?=some true→s.ins[k]?=some l→t.ins[k]?=some m→LeL l m
structure SolI (bl:List BlockS) (r:Nat) (s:SolS):Prop extends SolW bl.length r s where
 zero:s.seen[0]?=some true
 top:∀ l,s.ins[0]?=some l→∀ f∈l,f.kind=2
 done:∀ (k:Nat) (b:BlockS),bl[k]?=some b→s.seen[k]?=some true→(k:Int) ∉ s.work→∀ o∈nextF b.term (outF bl s k),s.seen[o.toNat]?=some true∧∀ m,s.ins[o.toNat]?=some m→LeL (outF bl s k) m
def plainN (x:InsS):Bool:=(decide (x.op=2∨x.op=22) && decide (x.a.reg < 0)) || (twoS x.op && decide (x.a.reg < 0) && decide (x.b.reg < 0) && (reckonS x.op x.a.num x.b.num).2)
theorem two_iff {op:Int}:twoS op=true↔3≤op∧op≤21:=by simp [twoS]
theorem pure_iff {op:Int}:pureS op=true↔1≤op∧op≤25:=by simp [pureS]
structure NumOK (bl bl':List BlockS):Prop where
 len:bl'.length=bl.length
 ins:∀ (k:Nat) (b b':BlockS),bl[k]?=some b→bl'[k]?=some b'→b'.ins.length=b.ins.length
 tgt:tgtOK bl'
 plain:∀ (k:Nat) (b':BlockS),bl'[k]?=some b'→hasS (reachedS bl') k=true→¬ (b'.term.kind=2∧b'.term.a.reg < 0∧b'.term.b.reg < 0)∧∀ x∈b'.ins,plainN x=false
theorem wrap64_in (n:Int):-9223372036854775808≤IntKind.i64.wrap n∧IntKind.i64.wrap n≤9223372036854775807:=by
 simp only [IntKind.wrap,IntKind.signed,IntKind.bits];simp;omega
theorem fit_wrap (n:Int):fitI (IntKind.i64.wrap n):=wrap64_in n
theorem fit_i64 (n:Int):fitI (i64 n):=wrap64_in n
theorem fit_fdiv {a:Int} (h:fitI a) (k:Nat):fitI (a.fdiv (2 ^ k)):=by
 have hp:(0:Int) < 2 ^ k:=Int.pow_pos (by omega)
 rw [Int.fdiv_eq_ediv_of_nonneg _ (Int.le_of_lt hp)]
 obtain ⟨h1,h2⟩:=h
 refine ⟨?_,?_⟩
 ·have:=Int.le_ediv_of_mul_le (a:=-9223372036854775808) (b:=a) hp (by
   have:(1:Int)≤2 ^ k:=hp
   have:=Int.mul_le_mul_of_nonpos_left (a:=(-9223372036854775808:Int)) (by omega) this
   omega)
  exact this
 ·by_cases ha:0≤a
  ·have:=Int.ediv_le_self (2 ^ k) ha
   omega
  ·have:=Int.ediv_neg_of_neg_of_pos (show a < 0 by omega) hp
   omega
theorem fit_tmod {a b:Int} (h:fitI a):fitI (a.tmod b):=by
 obtain ⟨h1,h2⟩:=h
 have hn:=Int.natAbs_tmod a b
 have hm:=Nat.mod_le a.natAbs b.natAbs
 by_cases ha:0≤a
 ·have:=Int.tmod_nonneg b ha
  constructor<;>omega
 ·have h3:=Int.tmod_nonneg b (show 0≤-a by omega)
  rw [Int.neg_tmod] at h3
  constructor<;>omega
theorem fit_quot {op a b:Int} (ha:fitI a):fitI (quotS op a b).1:=by
 unfold quotS
 split
 ·split
  ·exact ⟨by show (_:Int)≤0;omega,by show (0:Int)≤_;omega⟩
  ·exact fit_i64 _
 ·split
  ·exact ⟨by show (_:Int)≤0;omega,by show (0:Int)≤_;omega⟩
  ·split
   ·split
    ·exact ⟨by show (_:Int)≤0;omega,by show (0:Int)≤_;omega⟩
    ·exact fit_tmod ha
   ·split<;>exact fit_i64 _
theorem fit_reckon {op a b:Int} (ha:fitI a):fitI (reckonS op a b).1:=by
 unfold reckonS
 repeat' split
 all_goals first|exact fit_i64 _|exact fit_fdiv ha _|exact fit_quot ha|exact ⟨by show (_:Int)≤1;omega,by show (1:Int)≤_;omega⟩|exact ⟨by show (_:Int)≤0;omega,by show (0:Int)≤_;omega⟩
theorem fit_widen {n size:Int} {sg:Bool} (hn:fitI n):fitI (widenS n size sg):=by
 unfold widenS
 repeat' split
 ·exact hn
 ·exact fit_fdiv (fit_i64 _) _
 ·exact fit_i64 _
attribute [local irreducible] W RS
structure LeakS where
 kind:Int
 a:Int
 b:Int
structure RunS where
 fin:Int
 exit:Int
 out:List Int
 leaks:List LeakS
 steps:Int
 fuel:Int
 data:List Int
 stack:List Int
 sp:Int
 deep:Int
def leakW (x:LeakS):List Value:=[.int .i64 x.kind,.int .i64 x.a,.int .i64 x.b]
def intW (n:Int):List Value:=[.int .i64 n]
def bytesC (l:List Int):List Value:=l.map (.int .u8 ·)
def intsC (l:List Int):List Value:=l.map (.int .i64 ·)
def runC (pb:Nat) (s:RunS) (o l d t:Nat):List Value:=[.pointer (some ⟨pb,0,none⟩),.int .i64 s.fin,.int .i64 s.exit,rowVl 1 o s.out,rowVl 3 l s.leaks,.int .i64 s.steps,.int .i64 s.fuel,.slice (some ⟨d,0,none⟩) s.data.length s.data.length,.slice (some ⟨t,0,none⟩) s.stack.length s.stack.length,.int .i64 s.sp,.int .i64 s.deep]
def runL (pb:Nat) (s:RunS) (π:Nat→Nat):List (Nat × Option Blk):=[(0,some ⟨⟨runC pb s (π 1) (π 2) (π 3) (π 4)⟩,105⟩),(1,rowBk intW 2 s.out),(2,rowBk leakW 74 s.leaks),(3,some ⟨⟨bytesC s.data⟩,5⟩),(4,some ⟨⟨bytesC s.stack⟩,5⟩)]
set_option maxRecDepth 100000 in
theorem ok_tf (fin:Int) (cs:List Value) (xb:Nat) (h:Hp) (hM:h.m xb=some ⟨⟨cs⟩,105⟩) (hMc:cs[1]?=some (.int .i64 fin)):TF Tryd.prog 58 ⟨[.pointer (some ⟨xb,0,none⟩)]⟩ h (.bool (fin == 0)) h:=by
 refine TF.dom fun hd=>?_
 have hMn:=hd _ _ hM
 refine TF.still (fn:=Tryd.f58) (c:=(Tryd.f58.body.getD .skip)) Tryd.func58 (by kernel_rfl) Tryd.ntmps58 (by kernel_rfl) (by simp) ?_
 conv=>arg 2;whnf
 repeat (first|((with_reducible apply RS.load1B);(iterate 3 exact rfl);exact hM;exact hMn;exact hMc)|refine Y1d ?_|refine Yj ?_|refine Y0 ?_|refine Y18 ?_|refine Y1 ?_)
 repeat' ((first|((refine YD ?_ ?_)<;>intro _)|((refine YG ?_ ?_)<;>intro _)|((refine YC ?_ ?_)<;>intro _)|((refine YN ?_ ?_)<;>intro _))<;>repeat (fail))
 all_goals exact endsK_ret _ (.cons (.tmp rfl) .nil) ⟨rfl,rfl⟩
def argS (regs:List Int) (a:ArgS):Int:=if a.reg < 0 then a.num else regs.getD a.reg.toNat 0
set_option maxRecDepth 100000 in
theorem arg_tf (a:ArgS) (regs:List Int) (rb:Nat) (cs:List Value) (fb:Nat) (h:Hp) (hlen:regs.length≤1000000000) (hM:h.m fb=some ⟨⟨cs⟩,135⟩) (hMc:cs[1]?=some (.slice (some ⟨rb,0,none⟩) regs.length regs.length)) (hR:h.m rb=some ⟨⟨intsC regs⟩,2⟩):TF Tryd.prog 94 ⟨[.pointer (some ⟨fb,0,none⟩),.agg ⟨argC a⟩]⟩ h (.int .i64 (argS regs a)) h:=by
 refine TF.dom fun hd=>?_
 have hMn:=hd _ _ hM
 have hRn:=hd _ _ hR
 by_cases hn:0≤a.reg∧a.reg < regs.length
 ·obtain ⟨v,hv⟩:∃ v,regs[a.reg.toNat]?=some v:=⟨_,List.getElem?_eq_getElem (by omega)⟩
  have hav:argS regs a=v:=by unfold argS;rw [if_neg (by omega),List.getD_eq_getElem?_getD,hv];rfl
  have hRc:(intsC regs)[0+a.reg.toNat * 1]?=some (.int .i64 v):=by
   unfold intsC;rw [Nat.zero_add,Nat.mul_one,List.getElem?_map,hv];rfl
  refine TF.still (fn:=Tryd.f94) (c:=(Tryd.f94.body.getD .skip)) Tryd.func94 (by kernel_rfl) Tryd.ntmps94 (by kernel_rfl) (by simp) ?_
  conv=>arg 2;whnf
  repeat (first|((with_reducible apply RS.load1B);(iterate 3 exact rfl);first|exact hM;exact hMn;exact hMc|exact hR;exact hRn;exact hRc)|refine Y1f ?_|refine Y1w ?_|refine Y2 ?_|refine Y7 ?_|refine Y0 ?_|refine Y39 ?_|refine Y1 ?_|refine Y6 ?_)
  repeat' ((first|((refine YD ?_ ?_)<;>intro _)|((refine YG ?_ ?_)<;>intro _)|((refine YC ?_ ?_)<;>intro _)|((refine YN ?_ ?_)<;>intro _))<;>repeat (fail))
  all_goals exact endsK_ret _ (.cons (.tmp rfl) .nil) ⟨rfl,by rw [hav];rfl⟩
 ·have hneg:a.reg < 0→argS regs a=a.num:=fun hz=>by unfold argS;rw [if_pos hz]
  have hbig:¬ a.reg < 0→argS regs a=0:=fun hz=>by
   unfold argS;rw [if_neg hz,List.getD_eq_getElem?_getD,List.getElem?_eq_none (by omega)];rfl
  refine TF.still (fn:=Tryd.f94) (c:=(Tryd.f94.body.getD .skip)) Tryd.func94 (by kernel_rfl) Tryd.ntmps94 (by kernel_rfl) (by simp) ?_
  conv=>arg 2;whnf
  repeat' (first|((with_reducible apply RS.load1B);(iterate 3 exact rfl);exact hM;exact hMn;exact hMc)|refine Y1w ?_|refine Y3 ?_|refine Yj ?_|refine Y7 ?_|refine Y0 ?_|refine Y1c ?_|refine Y1 ?_|refine Y5 ?_|((refine YD ?_ ?_)<;>intro _)|((refine YG ?_ ?_)<;>intro _)|((refine YC ?_ ?_)<;>intro _)|((refine YN ?_ ?_)<;>intro _))
  ·exact endsK_ret _ (.cons (.tmp rfl) .nil) ⟨rfl,by rw [hneg (by assumption)];rfl⟩
  ·exact endsK_ret _ (.cons (.tmp rfl) .nil) ⟨rfl,by rw [hbig (by assumption)];rfl⟩
  all_goals (exfalso;omega)
theorem ParB_free {n K:Nat} {cs:List Value} {e:TypeId} (h:∀ v∈cs,bnd 0 v):ParB n K (fun _=>some ⟨⟨cs⟩,e⟩):=by
 refine ⟨fun τ π hτ=>?_,fun π N b hN hp hb u hu=>?_⟩
 ·show some _=_
  congr 1
  unfold subB
  congr 1
  apply Array.ext'
  simp only [List.map_toArray]
  exact (List.map_congr_left (g:=id) fun v hv=>sub_same (n:=0) (fun i hi=>by omega) v (h v hv)).trans (List.map_id cs)
 ·injection hb with hb
  subst hb
  exact bnd_mono (Nat.zero_le _) u (h u (by simpa using hu))
theorem ParB_row {n K:Nat} {α:Type} {w:α→List Value} {e:TypeId} (h:∀ a,∀ v∈w a,bnd 0 v) (l:List α):ParB n K (fun _=>rowBk w e l):=by
 have hall:∀ l:List α,∀ v∈rowC w l,bnd 0 v:=by
  intro l
  induction l with
  | nil=>intro v hv;cases hv
  | cons a l ih =>
   intro v hv
   rw [rowC,List.mem_append] at hv
   rcases hv with hv|hv
   ·exact ih v hv
   ·exact h a v hv
 cases l with
 | nil=>exact ⟨fun τ π hτ=>rfl,fun π N b hN hp hb=>by cases hb⟩
 | cons a l=>exact ParB_free (hall (a::l))
theorem sub_row {α:Type} {τ:Nat→Nat} {sz a:Nat} {l:List α}:sub τ (rowVl sz a l)=rowVl sz (τ a) l:=by
 cases l<;>simp [rowVl]
theorem bnd_row {α:Type} {N sz a:Nat} {l:List α} (h:a < N):bnd N (rowVl sz a l):=by
 cases l<;>simp [rowVl,h]
theorem run_par {n K:Nat} {pb:Nat} (s:RunS) (hp:pb < n) (hK:5≤K):ParL n K (runL pb s) 5:=by
 refine ⟨ParB_free fun v hv=>?_,ParB_free fun v hv=>?_,ParB_row (fun a v hv=>?_) s.leaks,ParB_row (fun a v hv=>?_) s.out,⟨fun τ π hτ=>?_,fun π N b hN hpi hb u hu=>?_⟩,trivial⟩
 ·obtain ⟨x,_,rfl⟩:=List.mem_map.1 hv;simp
 ·obtain ⟨x,_,rfl⟩:=List.mem_map.1 hv;simp
 ·simp only [leakW,List.mem_cons,List.not_mem_nil,or_false] at hv
  rcases hv with rfl|rfl|rfl<;>simp
 ·simp only [intW,List.mem_cons,List.not_mem_nil,or_false] at hv
  subst hv;simp
 ·show some _=some _
  congr 1
  unfold subB runC
  congr 1
  apply Array.ext'
  simp [sub_row,hτ pb hp]
 ·have hb:some _=some b:=hb
  injection hb with hb
  subst hb
  have h1:=hpi 1 (by omega)
  have h2:=hpi 2 (by omega)
  have h3:=hpi 3 (by omega)
  have h4:=hpi 4 (by omega)
  have hu:u∈runC pb s (π 1) (π 2) (π 3) (π 4):=by simpa using hu
  simp only [runC,List.mem_cons,List.not_mem_nil,or_false] at hu
  rcases hu with rfl|rfl|rfl|rfl|rfl|rfl|rfl|rfl|rfl|rfl|rfl
  all_goals first|exact bnd_row (by assumption)|(simp;done)|(simp;omega)
def stopS (s:RunS) (e:Int):RunS:=if s.fin=0 then { s with fin:=e } else s
set_option maxRecDepth 100000 in
theorem stop_to (B:Hp) (pb:Nat) (hpb:pb < B.n) (s:RunS) (e:Int):TO Tryd.prog 77 B 5 0 (fun π=>[.pointer (some ⟨π 0,0,none⟩),.int .i64 e]) (runL pb s) (fun _=>.tuple #[]) (runL pb (stopS s e)):=by
 refine TO.intro (fn:=Tryd.f77) (c:=(Tryd.f77.body.getD .skip)) Tryd.func77 (by kernel_rfl) Tryd.ntmps77 (fun π=>by kernel_rfl) (run_par _ hpb (by omega)) ⟨fun τ π hτ=>by simp,fun π N hN hp=>by simp⟩ fun π=>?_
 conv=>arg 2;whnf
 repeat' (first|((with_reducible apply RS.callR false [0]);(iterate 3 exact rfl);exact fun H hH=>ok_tf s.fin _ _ H (hH.l 0 rfl (by simp)) rfl;exact Nm_free (by simp))|refine Y29 ?_|refine Y4 ?_|refine Y0 ?_|refine Y2k ?_|refine Y1 ?_|((refine YD ?_ ?_)<;>intro _)|((refine YG ?_ ?_)<;>intro _)|((refine YC ?_ ?_)<;>intro _)|((refine YN ?_ ?_)<;>intro _))
 ·rw [show stopS s e={ s with fin:=e } from if_pos ‹_›]
  exact ⟨[],.nil,by (refine AtO.mk [0,1,2,3,4] rfl rfl rfl ?_ ?_ rfl<;>(repeat' (first|exact trivial|exact rfl|apply And.intro));done)⟩
 ·rw [show stopS s e=s from if_neg ‹_›]
  exact ⟨[],.nil,by (refine AtO.mk [0,1,2,3,4] rfl rfl rfl ?_ ?_ rfl<;>(repeat' (first|exact trivial|exact rfl|apply And.intro));done)⟩
def stepS (s:RunS):RunS:=if s.fin=0 then (if s.steps ≥ s.fuel then { s with fin:=42 } else { s with steps:=s.steps+1 }) else s
theorem stop_fresh (pb:Nat) (s:RunS) (e:Int) (π:Nat→Nat):FreshL (runL pb s π) (runL pb (stopS s e) π) 5:=by
 have h1:(stopS s e).out=s.out:=by unfold stopS;split<;>rfl
 have h2:(stopS s e).leaks=s.leaks:=by unfold stopS;split<;>rfl
 refine ⟨.inr ⟨_,rfl⟩,.inr ⟨_,rfl⟩,?_,?_,.inr ⟨_,rfl⟩,trivial⟩
 ·show rowBk leakW 74 (stopS s e).leaks=none∨∃ b,rowBk leakW 74 s.leaks=some b
  rw [h2];cases s.leaks with
  | nil=>exact .inl rfl
  | cons a l=>exact .inr ⟨_,rfl⟩
 ·show rowBk intW 2 (stopS s e).out=none∨∃ b,rowBk intW 2 s.out=some b
  rw [h1];cases s.out with
  | nil=>exact .inl rfl
  | cons a l=>exact .inr ⟨_,rfl⟩
set_option maxRecDepth 100000 in
theorem step_to (B:Hp) (pb:Nat) (hpb:pb < B.n) (s:RunS) (hst:0≤s.steps∧s.steps≤1000000000):TO Tryd.prog 93 B 5 0 (fun π=>[.pointer (some ⟨π 0,0,none⟩)]) (runL pb s) (fun _=>.bool ((stepS s).fin == 0)) (runL pb (stepS s)):=by
 refine TO.intro (fn:=Tryd.f93) (c:=(Tryd.f93.body.getD .skip)) Tryd.func93 (by kernel_rfl) Tryd.ntmps93 (fun π=>by kernel_rfl) (run_par _ hpb (by omega)) ⟨fun τ π hτ=>by simp,fun π N hN hp=>by simp⟩ fun π=>?_
 conv=>arg 2;whnf
 repeat' (first|refine Yw ?_|((with_reducible apply (RS.callO (vs:=[]) [0,1,2,3,4] 0));(iterate 2 exact rfl);exact stop_to _ pb hpb s 42;(iterate 2 exact rfl);exact ⟨rfl,rfl,rfl,rfl,rfl,trivial⟩;exact stop_fresh _ _ _ _)|refine Y1d ?_|refine Yf ?_|refine Y8 ?_|refine Y3 ?_|refine Yu ?_|refine Yt ?_|refine Y7 ?_|refine Y4 ?_|refine Ym ?_|refine Y0 ?_|refine Y2a ?_|refine Y1 ?_|refine Y6 ?_|((refine YD ?_ ?_)<;>intro _)|((refine YG ?_ ?_)<;>intro _)|((refine YC ?_ ?_)<;>intro _)|((refine YN ?_ ?_)<;>intro _))
 ·rename_i q1 q2 q3
  exfalso
  rw [show stopS s 42={ s with fin:=42 } from if_pos q1] at q3
  exact absurd q3 (show ¬ (42:Int)=0 by decide)
 ·rename_i q1 q2 q3
  rw [show stepS s=stopS s 42 by unfold stepS stopS;rw [if_pos q1,if_pos q2,if_pos q1]]
  exact endsK_ret _ (.cons (.tmp rfl) .nil) (by (refine AtO.mk [0,1,2,3,4] rfl rfl rfl ?_ ?_ rfl<;>(repeat' (first|exact trivial|exact rfl|apply And.intro));done))
 ·rename_i q1 q2 q3
  rw [show stepS s={ s with steps:=s.steps+1 } by unfold stepS;rw [if_pos q1,if_neg q2]]
  exact endsK_ret _ (.cons (.tmp rfl) .nil) (by (refine AtO.mk [0,1,2,3,4] rfl rfl rfl ?_ ?_ rfl<;>(repeat' (first|exact trivial|exact rfl|apply And.intro));done))
 ·exact absurd ‹s.fin=0› ‹¬ s.fin=0›
 ·exact absurd ‹s.fin=0› ‹¬ s.fin=0›
 ·rename_i q1 q2
  rw [show stepS s=s by unfold stepS;rw [if_neg q1]]
  exact endsK_ret _ (.cons (.tmp rfl) .nil) (by (refine AtO.mk [0,1,2,3,4] rfl rfl rfl ?_ ?_ rfl<;>(repeat' (first|exact trivial|exact rfl|apply And.intro));done))
structure RunS.ok (s:RunS):Prop where
 data:s.data.length≤1000000
 stack:s.stack.length≤1000000
 steps:0≤s.steps∧s.steps≤1000000000
 leaks:s.leaks.length≤1000000000
 out:s.out.length≤1000000000
def inData (s:RunS) (at_:Int) (n:Nat):Prop:=65536≤at_∧at_≤65536+s.data.length - n
def inStack (s:RunS) (at_:Int) (n:Nat):Prop:=134217728 - (s.stack.length:Int)≤at_∧at_≤134217728 - n
set_option maxRecDepth 100000 in
theorem bytesD_to (B:Hp) (pb:Nat) (hpb:pb < B.n) (s:RunS) (hs:s.ok) (at_:Int) (n:Nat) (hn:1≤n∧n≤8) (hin:inData s at_ n):TO Tryd.prog 117 B 5 0 (fun π=>[.pointer (some ⟨π 0,0,none⟩),.int .i64 at_,.int .i64 n]) (runL pb s) (fun π=>.slice (some ⟨π 3,0+(at_ - 65536).toNat * 1,none⟩) n (s.data.length - (at_ - 65536).toNat)) (runL pb s):=by
 obtain ⟨hi1,hi2⟩:=hin
 have hd:=hs.data
 have hk:=hs.stack
 refine TO.intro (fn:=Tryd.f117) (c:=(Tryd.f117.body.getD .skip)) Tryd.func117 (by kernel_rfl) Tryd.ntmps117 (fun π=>by kernel_rfl) (run_par _ hpb (by omega)) ⟨fun τ π hτ=>by simp,fun π N hN hp=>by simpa using hp 3 (by omega)⟩ fun π=>?_
 conv=>arg 2;whnf
 repeat (first|refine Y2n ?_|refine Y46 ?_|refine Yl ?_|refine Yf ?_|refine Y3 ?_|refine Yu ?_|refine Y7 ?_|refine Y0 ?_|refine Y1c ?_|refine Y1 ?_|refine Y5 ?_)
 repeat' ((first|((refine YD ?_ ?_)<;>intro _)|((refine YG ?_ ?_)<;>intro _)|((refine YC ?_ ?_)<;>intro _)|((refine YN ?_ ?_)<;>intro _))<;>repeat (fail))
 all_goals exact endsK_ret _ (.cons (.tmp rfl) .nil) (by (refine AtO.mk [0,1,2,3,4] rfl rfl rfl ?_ ?_ rfl<;>(repeat' (first|exact trivial|exact rfl|apply And.intro));done))
set_option maxRecDepth 100000 in
theorem bytesK_to (B:Hp) (pb:Nat) (hpb:pb < B.n) (s:RunS) (hs:s.ok) (at_:Int) (n:Nat) (hn:1≤n∧n≤8) (hno:¬ inData s at_ n) (hin:inStack s at_ n):TO Tryd.prog 117 B 5 0 (fun π=>[.pointer (some ⟨π 0,0,none⟩),.int .i64 at_,.int .i64 n]) (runL pb s) (fun π=>.slice (some ⟨π 4,0+(at_ - (134217728 - (s.stack.length:Int))).toNat * 1,none⟩) n (s.stack.length - (at_ - (134217728 - (s.stack.length:Int))).toNat)) (runL pb s):=by
 obtain ⟨hi1,hi2⟩:=hin
 have hd:=hs.data
 have hk:=hs.stack
 refine TO.intro (fn:=Tryd.f117) (c:=(Tryd.f117.body.getD .skip)) Tryd.func117 (by kernel_rfl) Tryd.ntmps117 (fun π=>by kernel_rfl) (run_par _ hpb (by omega)) ⟨fun τ π hτ=>by simp,fun π N hN hp=>by simpa using hp 4 (by omega)⟩ fun π=>?_
 conv=>arg 2;whnf
 repeat (first|refine Y2n ?_|refine Y46 ?_|refine Yl ?_|refine Yf ?_|refine Y3 ?_|refine Y2 ?_|refine Yu ?_|refine Y7 ?_|refine Y0 ?_|refine Y1c ?_|refine Y1 ?_|refine Y5 ?_|refine Y6 ?_)
 repeat' ((first|((refine YD ?_ ?_)<;>intro _)|((refine YG ?_ ?_)<;>intro _)|((refine YC ?_ ?_)<;>intro _)|((refine YN ?_ ?_)<;>intro _))<;>repeat (fail))
 all_goals first|exact endsK_ret _ (.cons (.tmp rfl) .nil) (by (refine AtO.mk [0,1,2,3,4] rfl rfl rfl ?_ ?_ rfl<;>(repeat' (first|exact trivial|exact rfl|apply And.intro));done))|(exfalso;exact hno ⟨by omega,by omega⟩)|(exfalso;omega)
set_option maxRecDepth 100000 in
theorem bytesN_to (B:Hp) (pb:Nat) (hpb:pb < B.n) (s:RunS) (hs:s.ok) (at_:Int) (hat:-9223372036854775808≤at_∧at_≤9223372036854775807) (n:Nat) (hn:1≤n∧n≤8) (hno:¬ inData s at_ n) (hno2:¬ inStack s at_ n):TO Tryd.prog 117 B 5 0 (fun π=>[.pointer (some ⟨π 0,0,none⟩),.int .i64 at_,.int .i64 n]) (runL pb s) (fun π=>.slice none 0 0) (runL pb (stopS s 40)):=by
 have hd:=hs.data
 have hk:=hs.stack
 refine TO.intro (fn:=Tryd.f117) (c:=(Tryd.f117.body.getD .skip)) Tryd.func117 (by kernel_rfl) Tryd.ntmps117 (fun π=>by kernel_rfl) (run_par _ hpb (by omega)) ⟨fun τ π hτ=>by simp,fun π N hN hp=>by simp⟩ fun π=>?_
 conv=>arg 2;whnf
 repeat' (first|((with_reducible apply (RS.callO (vs:=[]) [0,1,2,3,4] 0));(iterate 2 exact rfl);exact stop_to _ pb hpb s 40;(iterate 2 exact rfl);exact ⟨rfl,rfl,rfl,rfl,rfl,trivial⟩;exact stop_fresh _ _ _ _)|refine Y2n ?_|refine Y46 ?_|refine Yl ?_|refine Yf ?_|refine Y8 ?_|refine Y2 ?_|refine Yj ?_|refine Yu ?_|refine Yt ?_|refine Y7 ?_|refine Ym ?_|refine Y0 ?_|refine Yx ?_|refine Y1 ?_|refine Y6 ?_|((refine YD ?_ ?_)<;>intro _)|((refine YG ?_ ?_)<;>intro _)|((refine YC ?_ ?_)<;>intro _)|((refine YN ?_ ?_)<;>intro _))
 all_goals first|exact endsK_ret _ (.cons (.tmp rfl) .nil) (by (refine AtO.mk [0,1,2,3,4] rfl rfl rfl ?_ ?_ rfl<;>(repeat' (first|exact trivial|exact rfl|apply And.intro));done))|(exfalso;exact hno ⟨by omega,by omega⟩)|(exfalso;exact hno2 ⟨by omega,by omega⟩)|(exfalso;omega)|skip
def leakS (s:RunS) (x:LeakS):RunS:={ s with leaks:=x::s.leaks }
def lkL (pb:Nat) (s:RunS) (π:Nat→Nat):List (Nat × Option Blk):=[(0,some ⟨⟨runC pb s (π 1) (π 5) (π 3) (π 4)⟩,105⟩),(1,rowBk intW 2 s.out),(2,none),(3,some ⟨⟨bytesC s.data⟩,5⟩),(4,some ⟨⟨bytesC s.stack⟩,5⟩),(5,rowBk leakW 74 s.leaks)]
theorem lk_par {n K:Nat} {pb:Nat} (s:RunS) (hp:pb < n) (hK:6≤K):ParL n K (lkL pb s) 6:=by
 refine ⟨ParB_row (fun a v hv=>?_) s.leaks,ParB_free fun v hv=>?_,ParB_free fun v hv=>?_,⟨fun τ π hτ=>rfl,fun π N b hN hp hb=>by cases hb⟩,ParB_row (fun a v hv=>?_) s.out,⟨fun τ π hτ=>?_,fun π N b hN hpi hb u hu=>?_⟩,trivial⟩
 ·simp only [leakW,List.mem_cons,List.not_mem_nil,or_false] at hv
  rcases hv with rfl|rfl|rfl<;>simp
 ·obtain ⟨x,_,rfl⟩:=List.mem_map.1 hv;simp
 ·obtain ⟨x,_,rfl⟩:=List.mem_map.1 hv;simp
 ·simp only [intW,List.mem_cons,List.not_mem_nil,or_false] at hv
  subst hv;simp
 ·show some _=some _
  congr 1
  unfold subB runC
  congr 1
  apply Array.ext'
  simp [sub_row,hτ pb hp]
 ·have hb:some _=some b:=hb
  injection hb with hb
  subst hb
  have h1:=hpi 1 (by omega)
  have h2:=hpi 5 (by omega)
  have h3:=hpi 3 (by omega)
  have h4:=hpi 4 (by omega)
  have hu:u∈runC pb s (π 1) (π 5) (π 3) (π 4):=by simpa using hu
  simp only [runC,List.mem_cons,List.not_mem_nil,or_false] at hu
  rcases hu with rfl|rfl|rfl|rfl|rfl|rfl|rfl|rfl|rfl|rfl|rfl
  all_goals first|exact bnd_row (by assumption)|(simp;done)|(simp;omega)
def loadStep (v b:Int) (i:Nat):Int:=IntKind.i64.wrap ((BitVec.ofInt IntKind.i64.bits v ||| BitVec.ofInt IntKind.i64.bits (IntKind.i64.wrap (IntKind.i64.wrap b * 2 ^ (min (8 * (i:Int)).toNat IntKind.i64.bits)))).toNat:Int)
def loadV (dl:List Int) (o:Nat):Nat→Int
 | 0=>0
 | i+1=>loadStep (loadV dl o i) (dl.getD (o+i) 0) i
theorem AllB.opt {hl:List (Nat × Option Blk)} {m:List Nat} {i j:Nat} {ob:Option Blk} {l:List (Nat × Option Blk)} (hj:nthL m i=some j) (h:lookB hl j=ob) (ht:AllB hl m l):AllB hl m ((i,ob)::l):=by
 cases ob with
 | none=>exact ht
 | some b=>exact ⟨by rw [hj];exact h,ht⟩
theorem row_fresh {α:Type} (w:α→List Value) (e:TypeId) (l:List α):rowBk w e l=none∨∃ b,rowBk w e l=some b:=by
 cases l with
 | nil=>exact .inl rfl
 | cons a l=>exact .inr ⟨_,rfl⟩
theorem run_fresh (pb:Nat) (s:RunS) (π:Nat→Nat):FreshL (runL pb s π) (runL pb s π) 5:=⟨.inr ⟨_,rfl⟩,.inr ⟨_,rfl⟩,row_fresh _ _ _,row_fresh _ _ _,.inr ⟨_,rfl⟩,trivial⟩
set_option maxHeartbeats 2000000 in
set_option maxRecDepth 100000 in
theorem loadD_to (B:Hp) (pb:Nat) (hpb:pb < B.n) (s:RunS) (at_:Int) (hs:(leakS s ⟨2,at_,0⟩).ok) (n:Nat) (hn:1≤n∧n≤8) (sg:Bool) (hin:inData s at_ n):TO Tryd.prog 107 B 5 1 (fun π=>[.pointer (some ⟨π 0,0,none⟩),.int .i64 at_,.int .i64 n,.bool sg]) (runL pb s) (fun π=>.int .i64 (widenS (loadV s.data (at_ - 65536).toNat n) n sg)) (lkL pb (leakS s ⟨2,at_,0⟩)):=by
 have hd:s.data.length≤1000000:=hs.data
 have hlk:s.leaks.length+1≤1000000000:=hs.leaks
 have hin':=hin
 obtain ⟨hi1,hi2⟩:=hin'
 refine TO.intro (fn:=Tryd.f107) (c:=(Tryd.f107.body.getD .skip)) Tryd.func107 (by kernel_rfl) Tryd.ntmps107 (fun π=>by kernel_rfl) (lk_par _ hpb (by omega)) ⟨fun τ π hτ=>by simp,fun π N hN hp=>by simp⟩ fun π=>?_
 conv=>arg 2;whnf
 repeat (first|refine Y2o ?_|refine Yn ?_|((with_reducible apply (RS.callO (vs:=[]) [0,1,6,3,4] 0));(iterate 2 exact rfl);exact bytesD_to B pb hpb (leakS s ⟨2,at_,0⟩) hs at_ n hn hin;(iterate 2 exact rfl);exact ⟨rfl,rfl,rfl,rfl,rfl,trivial⟩;exact run_fresh _ _ _)|refine Yl ?_|refine Y7 ?_|refine Y4 ?_|refine Y17 ?_|refine Y0 ?_|refine Y19 ?_|refine Y1 ?_)
 refine W.loopP (X:=Nat × Int) (fun π y=>[(0,.pointer (some ⟨π 0,0,none⟩)),(2,.int .i64 n),(3,.bool sg),(9,.int .i64 y.2),(28,.slice (some ⟨π 3,0+(at_ - 65536).toNat * 1,none⟩) n (s.data.length - (at_ - 65536).toNat)),(29,.int .i64 n),(30,.int .i64 y.1)]) (fun _=>B) (fun π _=>lkL pb (leakS s ⟨2,at_,0⟩) π) (fun π' y=>EqUp π' π 5∧y.1≤n∧y.2=loadV s.data (at_ - 65536).toNat y.1) (fun y=>n - y.1) [0,1,2,3,4,6] (0,0) ⟨⟨rfl,rfl,rfl,rfl,rfl,trivial⟩,Nat.zero_le _,rfl⟩ (by (refine FitL.mk ?_ ?_ ?_ ?_<;>(repeat' (first|exact trivial|exact rfl|(refine AllB.opt rfl rfl ?_)|apply And.intro));done)) ?_
 rintro π' ⟨i,v⟩ ⟨hE,hI,hv⟩
 dsimp only at hI hv ⊢
 subst hv
 by_cases hlt:i < n
 ·have hb:s.data[(at_ - 65536).toNat+i]?=some (s.data.getD ((at_ - 65536).toNat+i) 0):=by
   rw [List.getD_eq_getElem?_getD,List.getElem?_eq_getElem (by omega)];rfl
  have hbyte:(bytesC s.data)[0+(at_ - 65536).toNat * 1+i * 1]?=some (.int .u8 (s.data.getD ((at_ - 65536).toNat+i) 0)):=by
   unfold bytesC;rw [Nat.zero_add,Nat.mul_one,Nat.mul_one,List.getElem?_map,hb];rfl
  repeat (first|((with_reducible apply RS.shl);(iterate 4 exact rfl);omega)|refine Y9 ?_|((with_reducible apply RS.load1At);(iterate 5 exact rfl);exact hbyte)|refine Y16 ?_|refine Y3 ?_|refine Yb ?_|refine Yu ?_|refine Yt ?_|refine Y0 ?_|refine Yg ?_|refine Y1 ?_|refine Y5 ?_)
  exact roundP_n (i+1,loadV s.data (at_ - 65536).toNat (i+1)) [0,1,2,3,4,5] rfl rfl ⟨hE,by dsimp only;omega,rfl⟩ (by dsimp only;omega) (by (refine FitL.mk ?_ ?_ ?_ ?_<;>(repeat' (first|exact trivial|exact rfl|(refine AllB.opt rfl rfl ?_)|apply And.intro));done))
 ·have hni:i=n:=by omega
  repeat (first|refine Y31 ?_|refine Ye ?_|refine Y2 ?_|refine Y0 ?_|refine Y2f ?_|refine Y1 ?_|refine Y6 ?_|refine Yi ?_)
  refine endsK_ret _ (.cons (.tmp rfl) .nil) (AtO.mk [0,1,2,3,4,5] rfl rfl rfl hE (by (repeat' (first|exact trivial|exact rfl|apply And.intro));done) ?_)
  rw [← hni];rfl
set_option maxHeartbeats 2000000 in
set_option maxRecDepth 100000 in
theorem loadK_to (B:Hp) (pb:Nat) (hpb:pb < B.n) (s:RunS) (at_:Int) (hs:(leakS s ⟨2,at_,0⟩).ok) (n:Nat) (hn:1≤n∧n≤8) (sg:Bool) (hno:¬ inData s at_ n) (hin:inStack s at_ n):TO Tryd.prog 107 B 5 1 (fun π=>[.pointer (some ⟨π 0,0,none⟩),.int .i64 at_,.int .i64 n,.bool sg]) (runL pb s) (fun π=>.int .i64 (widenS (loadV s.stack (at_ - (134217728 - (s.stack.length:Int))).toNat n) n sg)) (lkL pb (leakS s ⟨2,at_,0⟩)):=by
 have hd:s.stack.length≤1000000:=hs.stack
 have hlk:s.leaks.length+1≤1000000000:=hs.leaks
 have hin':=hin
 obtain ⟨hi1,hi2⟩:=hin'
 refine TO.intro (fn:=Tryd.f107) (c:=(Tryd.f107.body.getD .skip)) Tryd.func107 (by kernel_rfl) Tryd.ntmps107 (fun π=>by kernel_rfl) (lk_par _ hpb (by omega)) ⟨fun τ π hτ=>by simp,fun π N hN hp=>by simp⟩ fun π=>?_
 conv=>arg 2;whnf
 repeat (first|refine Y2o ?_|refine Yn ?_|((with_reducible apply (RS.callO (vs:=[]) [0,1,6,3,4] 0));(iterate 2 exact rfl);exact bytesK_to B pb hpb (leakS s ⟨2,at_,0⟩) hs at_ n hn hno hin;(iterate 2 exact rfl);exact ⟨rfl,rfl,rfl,rfl,rfl,trivial⟩;exact run_fresh _ _ _)|refine Yl ?_|refine Y7 ?_|refine Y4 ?_|refine Y17 ?_|refine Y0 ?_|refine Y19 ?_|refine Y1 ?_)
 refine W.loopP (X:=Nat × Int) (fun π y=>[(0,.pointer (some ⟨π 0,0,none⟩)),(2,.int .i64 n),(3,.bool sg),(9,.int .i64 y.2),(28,.slice (some ⟨π 4,0+(at_ - (134217728 - (s.stack.length:Int))).toNat * 1,none⟩) n (s.stack.length - (at_ - (134217728 - (s.stack.length:Int))).toNat)),(29,.int .i64 n),(30,.int .i64 y.1)]) (fun _=>B) (fun π _=>lkL pb (leakS s ⟨2,at_,0⟩) π) (fun π' y=>EqUp π' π 5∧y.1≤n∧y.2=loadV s.stack (at_ - (134217728 - (s.stack.length:Int))).toNat y.1) (fun y=>n - y.1) [0,1,2,3,4,6] (0,0) ⟨⟨rfl,rfl,rfl,rfl,rfl,trivial⟩,Nat.zero_le _,rfl⟩ (by (refine FitL.mk ?_ ?_ ?_ ?_<;>(repeat' (first|exact trivial|exact rfl|(refine AllB.opt rfl rfl ?_)|apply And.intro));done)) ?_
 rintro π' ⟨i,v⟩ ⟨hE,hI,hv⟩
 dsimp only at hI hv ⊢
 subst hv
 by_cases hlt:i < n
 ·have hb:s.stack[(at_ - (134217728 - (s.stack.length:Int))).toNat+i]?=some (s.stack.getD ((at_ - (134217728 - (s.stack.length:Int))).toNat+i) 0):=by
   rw [List.getD_eq_getElem?_getD,List.getElem?_eq_getElem (by omega)];rfl
  have hbyte:(bytesC s.stack)[0+(at_ - (134217728 - (s.stack.length:Int))).toNat * 1+i * 1]?=some (.int .u8 (s.stack.getD ((at_ - (134217728 - (s.stack.length:Int))).toNat+i) 0)):=by
   unfold bytesC;rw [Nat.zero_add,Nat.mul_one,Nat.mul_one,List.getElem?_map,hb];rfl
  repeat (first|((with_reducible apply RS.shl);(iterate 4 exact rfl);omega)|refine Y9 ?_|((with_reducible apply RS.load1At);(iterate 5 exact rfl);exact hbyte)|refine Y16 ?_|refine Y3 ?_|refine Yb ?_|refine Yu ?_|refine Yt ?_|refine Y0 ?_|refine Yg ?_|refine Y1 ?_|refine Y5 ?_)
  exact roundP_n (i+1,loadV s.stack (at_ - (134217728 - (s.stack.length:Int))).toNat (i+1)) [0,1,2,3,4,5] rfl rfl ⟨hE,by dsimp only;omega,rfl⟩ (by dsimp only;omega) (by (refine FitL.mk ?_ ?_ ?_ ?_<;>(repeat' (first|exact trivial|exact rfl|(refine AllB.opt rfl rfl ?_)|apply And.intro));done))
 ·have hni:i=n:=by omega
  repeat (first|refine Y31 ?_|refine Ye ?_|refine Y2 ?_|refine Y0 ?_|refine Y2f ?_|refine Y1 ?_|refine Y6 ?_|refine Yi ?_)
  refine endsK_ret _ (.cons (.tmp rfl) .nil) (AtO.mk [0,1,2,3,4,5] rfl rfl rfl hE (by (repeat' (first|exact trivial|exact rfl|apply And.intro));done) ?_)
  rw [← hni];rfl
set_option maxHeartbeats 2000000 in
set_option maxRecDepth 100000 in
theorem loadN_to (B:Hp) (pb:Nat) (hpb:pb < B.n) (s:RunS) (at_:Int) (hs:(leakS s ⟨2,at_,0⟩).ok) (hat:-9223372036854775808≤at_∧at_≤9223372036854775807) (n:Nat) (hn:1≤n∧n≤8) (sg:Bool) (hno:¬ inData s at_ n) (hno2:¬ inStack s at_ n):TO Tryd.prog 107 B 5 1 (fun π=>[.pointer (some ⟨π 0,0,none⟩),.int .i64 at_,.int .i64 n,.bool sg]) (runL pb s) (fun π=>.int .i64 (widenS 0 n sg)) (lkL pb (stopS (leakS s ⟨2,at_,0⟩) 40)):=by
 have hlk:s.leaks.length+1≤1000000000:=hs.leaks
 refine TO.intro (fn:=Tryd.f107) (c:=(Tryd.f107.body.getD .skip)) Tryd.func107 (by kernel_rfl) Tryd.ntmps107 (fun π=>by kernel_rfl) (lk_par _ hpb (by omega)) ⟨fun τ π hτ=>by simp,fun π N hN hp=>by simp⟩ fun π=>?_
 conv=>arg 2;whnf
 repeat (first|refine Y2o ?_|refine Yn ?_|((with_reducible apply (RS.callO (vs:=[]) [0,1,6,3,4] 0));(iterate 2 exact rfl);exact bytesN_to B pb hpb (leakS s ⟨2,at_,0⟩) hs at_ hat n hn hno hno2;(iterate 2 exact rfl);exact ⟨rfl,rfl,rfl,rfl,rfl,trivial⟩;exact stop_fresh _ _ _ _)|refine Yl ?_|refine Y7 ?_|refine Y4 ?_|refine Y17 ?_|refine Y0 ?_|refine Y19 ?_|refine Y1 ?_)
 refine W.loopP (X:=Unit) (fun π y=>[(0,.pointer (some ⟨π 0,0,none⟩)),(2,.int .i64 n),(3,.bool sg),(9,.int .i64 0),(28,.slice none 0 0),(29,.int .i64 (0:Nat)),(30,.int .i64 0)]) (fun _=>B) (fun π _=>lkL pb (stopS (leakS s ⟨2,at_,0⟩) 40) π) (fun π' y=>EqUp π' π 5) (fun y=>0) [0,1,2,3,4,6] () ⟨rfl,rfl,rfl,rfl,rfl,trivial⟩ (by (refine FitL.mk ?_ ?_ ?_ ?_<;>(repeat' (first|exact trivial|exact rfl|(refine AllB.opt rfl rfl ?_)|apply And.intro));done)) ?_
 intro π' _ hE
 repeat (first|refine Y31 ?_|refine Ye ?_|refine Y2 ?_|refine Y0 ?_|refine Y2f ?_|refine Y1 ?_|refine Y6 ?_|refine Yi ?_)
 refine endsK_ret _ (.cons (.tmp rfl) .nil) (AtO.mk [0,1,2,3,4,5] rfl rfl rfl hE (by (repeat' (first|exact trivial|exact rfl|apply And.intro));done) ?_)
 rfl
def storeByte (v:Int) (i:Nat):Int:=IntKind.u8.wrap (v.fdiv (2 ^ (min (8 * (i:Int)).toNat IntKind.i64.bits)))
def storeV (d:List Int) (o:Nat) (v:Int):Nat→List Int
 | 0=>d
 | i+1=>(storeV d o v i).set (o+i) (storeByte v i)
theorem storeV_len (d:List Int) (o:Nat) (v:Int):∀ i,(storeV d o v i).length=d.length:=by
 intro i
 induction i with
 | zero=>rfl
 | succ i ih=>rw [storeV,List.length_set,ih]
theorem setL_bytes (d:List Int) (k:Nat) (b:Int):setL (bytesC d) k [.int .u8 b]=bytesC (d.set k b):=by
 rw [setL_cons,setL_nil];unfold bytesC;rw [List.map_set]
theorem runC_data (pb:Nat) (s:RunS) (d:List Int) (o l dd t:Nat) (h:d.length=s.data.length):runC pb { s with data:=d } o l dd t=runC pb s o l dd t:=by
 unfold runC;dsimp only;rw [h]
theorem runC_stack (pb:Nat) (s:RunS) (d:List Int) (o l dd t:Nat) (h:d.length=s.stack.length):runC pb { s with stack:=d } o l dd t=runC pb s o l dd t:=by
 unfold runC;dsimp only;rw [h]
def stL (pb:Nat) (s:RunS) (d k:List Int) (π:Nat→Nat):List (Nat × Option Blk):=[(0,some ⟨⟨runC pb s (π 1) (π 5) (π 3) (π 4)⟩,105⟩),(1,rowBk intW 2 s.out),(2,none),(3,some ⟨⟨bytesC d⟩,5⟩),(4,some ⟨⟨bytesC k⟩,5⟩),(5,rowBk leakW 74 s.leaks)]
set_option maxHeartbeats 2000000 in
set_option maxRecDepth 100000 in
theorem storeD_to (B:Hp) (pb:Nat) (hpb:pb < B.n) (s:RunS) (at_:Int) (hs:(leakS s ⟨3,at_,0⟩).ok) (n:Nat) (hn:1≤n∧n≤8) (v:Int) (hin:inData s at_ n):TO Tryd.prog 108 B 5 1 (fun π=>[.pointer (some ⟨π 0,0,none⟩),.int .i64 at_,.int .i64 n,.int .i64 v]) (runL pb s) (fun π=>.tuple #[]) (lkL pb { leakS s ⟨3,at_,0⟩ with data:=storeV s.data (at_ - 65536).toNat v n }):=by
 have hd:s.data.length≤1000000:=hs.data
 have hlk:s.leaks.length+1≤1000000000:=hs.leaks
 have hin':=hin
 obtain ⟨hi1,hi2⟩:=hin'
 refine TO.intro (fn:=Tryd.f108) (c:=(Tryd.f108.body.getD .skip)) Tryd.func108 (by kernel_rfl) Tryd.ntmps108 (fun π=>by kernel_rfl) (lk_par _ hpb (by omega)) ⟨fun τ π hτ=>by simp,fun π N hN hp=>by simp⟩ fun π=>?_
 conv=>arg 2;whnf
 repeat (first|refine Y2p ?_|refine Yn ?_|((with_reducible apply (RS.callO (vs:=[]) [0,1,6,3,4] 0));(iterate 2 exact rfl);exact bytesD_to B pb hpb (leakS s ⟨3,at_,0⟩) hs at_ n hn hin;(iterate 2 exact rfl);exact ⟨rfl,rfl,rfl,rfl,rfl,trivial⟩;exact run_fresh _ _ _)|refine Yl ?_|refine Y7 ?_|refine Y4 ?_|refine Y17 ?_|refine Y0 ?_|refine Y19 ?_|refine Y1 ?_)
 refine W.loopP (X:=Nat) (fun π y=>[(0,.pointer (some ⟨π 0,0,none⟩)),(3,.int .i64 v),(8,.slice (some ⟨π 3,0+(at_ - 65536).toNat * 1,none⟩) n (s.data.length - (at_ - 65536).toNat)),(28,.int .i64 n),(29,.int .i64 y)]) (fun _=>B) (fun π y=>stL pb (leakS s ⟨3,at_,0⟩) (storeV s.data (at_ - 65536).toNat v y) s.stack π) (fun π' y=>EqUp π' π 5∧y≤n) (fun y=>n - y) [0,1,2,3,4,6] 0 ⟨⟨rfl,rfl,rfl,rfl,rfl,trivial⟩,Nat.zero_le _⟩ (by (refine FitL.mk ?_ ?_ ?_ ?_<;>(repeat' (first|exact trivial|exact rfl|(refine AllB.opt rfl rfl ?_)|apply And.intro));done)) ?_
 rintro π' i ⟨hE,hI⟩
 dsimp only at hI ⊢
 by_cases hlt:i < n
 ·have hset:setL (bytesC (storeV s.data (at_ - 65536).toNat v i)) (0+(at_ - 65536).toNat * 1+i * 1) [.int .u8 (storeByte v i)]=bytesC (storeV s.data (at_ - 65536).toNat v (i+1)):=by
   rw [Nat.zero_add,Nat.mul_one,Nat.mul_one];exact setL_bytes _ _ _
  have hfit:0+(at_ - 65536).toNat * 1+i * 1+1≤(bytesC (storeV s.data (at_ - 65536).toNat v i)).length:=by
   unfold bytesC;rw [List.length_map,storeV_len];omega
  repeat (first|refine Y5d ?_|refine Y9 ?_|refine Y4a ?_|refine Y16 ?_|refine Y3 ?_|refine Yb ?_|refine Yu ?_|refine Y0 ?_|refine Yg ?_|refine Y1 ?_|refine Y5 ?_)
  exact roundP_n (i+1) [0,1,2,3,4,5] rfl rfl ⟨hE,by omega⟩ (by omega) (by (refine FitL.mk ?_ ?_ ?_ ?_<;>(repeat' (first|exact trivial|exact rfl|(refine AllB.opt rfl rfl ?_)|apply And.intro));done))
 ·have hni:i=n:=by omega
  subst hni
  repeat (first|refine Y2 ?_|refine Y0 ?_|refine Y4l ?_|refine Y1 ?_|refine Y6 ?_|refine Yi ?_)
  exact ⟨[],.nil,AtO.mk [0,1,2,3,4,5] rfl rfl rfl hE ⟨congrArg (fun c=>some (Blk.mk ⟨c⟩ 105)) (runC_data pb (leakS s ⟨3,at_,0⟩) _ _ _ _ _ (storeV_len _ _ _ _)),rfl,rfl,rfl,rfl,rfl,trivial⟩ rfl⟩
set_option maxHeartbeats 2000000 in
set_option maxRecDepth 100000 in
theorem storeK_to (B:Hp) (pb:Nat) (hpb:pb < B.n) (s:RunS) (at_:Int) (hs:(leakS s ⟨3,at_,0⟩).ok) (n:Nat) (hn:1≤n∧n≤8) (v:Int) (hno:¬ inData s at_ n) (hin:inStack s at_ n):TO Tryd.prog 108 B 5 1 (fun π=>[.pointer (some ⟨π 0,0,none⟩),.int .i64 at_,.int .i64 n,.int .i64 v]) (runL pb s) (fun π=>.tuple #[]) (lkL pb { leakS s ⟨3,at_,0⟩ with stack:=storeV s.stack (at_ - (134217728 - (s.stack.length:Int))).toNat v n }):=by
 have hd:s.stack.length≤1000000:=hs.stack
 have hlk:s.leaks.length+1≤1000000000:=hs.leaks
 have hin':=hin
 obtain ⟨hi1,hi2⟩:=hin'
 refine TO.intro (fn:=Tryd.f108) (c:=(Tryd.f108.body.getD .skip)) Tryd.func108 (by kernel_rfl) Tryd.ntmps108 (fun π=>by kernel_rfl) (lk_par _ hpb (by omega)) ⟨fun τ π hτ=>by simp,fun π N hN hp=>by simp⟩ fun π=>?_
 conv=>arg 2;whnf
 repeat (first|refine Y2p ?_|refine Yn ?_|((with_reducible apply (RS.callO (vs:=[]) [0,1,6,3,4] 0));(iterate 2 exact rfl);exact bytesK_to B pb hpb (leakS s ⟨3,at_,0⟩) hs at_ n hn hno hin;(iterate 2 exact rfl);exact ⟨rfl,rfl,rfl,rfl,rfl,trivial⟩;exact run_fresh _ _ _)|refine Yl ?_|refine Y7 ?_|refine Y4 ?_|refine Y17 ?_|refine Y0 ?_|refine Y19 ?_|refine Y1 ?_)
 refine W.loopP (X:=Nat) (fun π y=>[(0,.pointer (some ⟨π 0,0,none⟩)),(3,.int .i64 v),(8,.slice (some ⟨π 4,0+(at_ - (134217728 - (s.stack.length:Int))).toNat * 1,none⟩) n (s.stack.length - (at_ - (134217728 - (s.stack.length:Int))).toNat)),(28,.int .i64 n),(29,.int .i64 y)]) (fun _=>B) (fun π y=>stL pb (leakS s ⟨3,at_,0⟩) s.data (storeV s.stack (at_ - (134217728 - (s.stack.length:Int))).toNat v y) π) (fun π' y=>EqUp π' π 5∧y≤n) (fun y=>n - y) [0,1,2,3,4,6] 0 ⟨⟨rfl,rfl,rfl,rfl,rfl,trivial⟩,Nat.zero_le _⟩ (by (refine FitL.mk ?_ ?_ ?_ ?_<;>(repeat' (first|exact trivial|exact rfl|(refine AllB.opt rfl rfl ?_)|apply And.intro));done)) ?_
 rintro π' i ⟨hE,hI⟩
 dsimp only at hI ⊢
 by_cases hlt:i < n
 ·have hset:setL (bytesC (storeV s.stack (at_ - (134217728 - (s.stack.length:Int))).toNat v i)) (0+(at_ - (134217728 - (s.stack.length:Int))).toNat * 1+i * 1) [.int .u8 (storeByte v i)]=bytesC (storeV s.stack (at_ - (134217728 - (s.stack.length:Int))).toNat v (i+1)):=by
   rw [Nat.zero_add,Nat.mul_one,Nat.mul_one];exact setL_bytes _ _ _
  have hfit:0+(at_ - (134217728 - (s.stack.length:Int))).toNat * 1+i * 1+1≤(bytesC (storeV s.stack (at_ - (134217728 - (s.stack.length:Int))).toNat v i)).length:=by
   unfold bytesC;rw [List.length_map,storeV_len];omega
  repeat (first|refine Y5d ?_|refine Y9 ?_|refine Y4a ?_|refine Y16 ?_|refine Y3 ?_|refine Yb ?_|refine Yu ?_|refine Y0 ?_|refine Yg ?_|refine Y1 ?_|refine Y5 ?_)
  exact roundP_n (i+1) [0,1,2,3,4,5] rfl rfl ⟨hE,by omega⟩ (by omega) (by (refine FitL.mk ?_ ?_ ?_ ?_<;>(repeat' (first|exact trivial|exact rfl|(refine AllB.opt rfl rfl ?_)|apply And.intro));done))
 ·have hni:i=n:=by omega
  subst hni
  repeat (first|refine Y2 ?_|refine Y0 ?_|refine Y4l ?_|refine Y1 ?_|refine Y6 ?_|refine Yi ?_)
  exact ⟨[],.nil,AtO.mk [0,1,2,3,4,5] rfl rfl rfl hE ⟨congrArg (fun c=>some (Blk.mk ⟨c⟩ 105)) (runC_stack pb (leakS s ⟨3,at_,0⟩) _ _ _ _ _ (storeV_len _ _ _ _)),rfl,rfl,rfl,rfl,rfl,trivial⟩ rfl⟩
set_option maxHeartbeats 2000000 in
set_option maxRecDepth 100000 in
theorem storeN_to (B:Hp) (pb:Nat) (hpb:pb < B.n) (s:RunS) (at_:Int) (hs:(leakS s ⟨3,at_,0⟩).ok) (hat:-9223372036854775808≤at_∧at_≤9223372036854775807) (n:Nat) (hn:1≤n∧n≤8) (v:Int) (hno:¬ inData s at_ n) (hno2:¬ inStack s at_ n):TO Tryd.prog 108 B 5 1 (fun π=>[.pointer (some ⟨π 0,0,none⟩),.int .i64 at_,.int .i64 n,.int .i64 v]) (runL pb s) (fun π=>.tuple #[]) (lkL pb (stopS (leakS s ⟨3,at_,0⟩) 40)):=by
 have hlk:s.leaks.length+1≤1000000000:=hs.leaks
 refine TO.intro (fn:=Tryd.f108) (c:=(Tryd.f108.body.getD .skip)) Tryd.func108 (by kernel_rfl) Tryd.ntmps108 (fun π=>by kernel_rfl) (lk_par _ hpb (by omega)) ⟨fun τ π hτ=>by simp,fun π N hN hp=>by simp⟩ fun π=>?_
 conv=>arg 2;whnf
 repeat (first|refine Y2p ?_|refine Yn ?_|((with_reducible apply (RS.callO (vs:=[]) [0,1,6,3,4] 0));(iterate 2 exact rfl);exact bytesN_to B pb hpb (leakS s ⟨3,at_,0⟩) hs at_ hat n hn hno hno2;(iterate 2 exact rfl);exact ⟨rfl,rfl,rfl,rfl,rfl,trivial⟩;exact stop_fresh _ _ _ _)|refine Yl ?_|refine Y7 ?_|refine Y4 ?_|refine Y17 ?_|refine Y0 ?_|refine Y19 ?_|refine Y1 ?_)
 refine W.loopP (X:=Unit) (fun π y=>[(0,.pointer (some ⟨π 0,0,none⟩)),(8,.slice none 0 0),(28,.int .i64 (0:Nat)),(29,.int .i64 0)]) (fun _=>B) (fun π _=>lkL pb (stopS (leakS s ⟨3,at_,0⟩) 40) π) (fun π' y=>EqUp π' π 5) (fun y=>0) [0,1,2,3,4,6] () ⟨rfl,rfl,rfl,rfl,rfl,trivial⟩ (by (refine FitL.mk ?_ ?_ ?_ ?_<;>(repeat' (first|exact trivial|exact rfl|(refine AllB.opt rfl rfl ?_)|apply And.intro));done)) ?_
 intro π' _ hE
 repeat (first|refine Y2 ?_|refine Y0 ?_|refine Y4l ?_|refine Y1 ?_|refine Y6 ?_|refine Yi ?_)
 exact ⟨[],.nil,AtO.mk [0,1,2,3,4,5] rfl rfl rfl hE (by (repeat' (first|exact trivial|exact rfl|apply And.intro));done) rfl⟩
end Go.Proofs.YtjhloakacicdiaaDoor
