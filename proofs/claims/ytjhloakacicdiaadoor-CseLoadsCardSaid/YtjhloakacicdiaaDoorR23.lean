/-
  What the functions that the law reaches compute,told by plain data;it holds of programs that pass the check of right form and are light.
-/
import Derived.Test.YtjhloakacicdiaaDoorR15
import Derived.Test.YtjhloakacicdiaaDoorR20
import Derived.Test.YtjhloakacicdiaaDoorR22
import Derived.Test.YtjhloakacicdiaaDoorR9
import Derived.Test.YtjhloakacicdiaaDoorS2
set_option linter.unusedVariables false
set_option linter.unusedSimpArgs false
namespace Go.Proofs.YtjhloakacicdiaaDoor
open Go.AH
attribute [local irreducible] W RS
structure FourR (a b x y:RunS):Prop where
 run:a.fin=0→x.fin=0∧x.exit=a.exit∧x.out=a.out∧x.steps≤a.steps
 two:a.fin=0→b.fin=0→a.leaks=b.leaks→x.leaks=y.leaks
def plainD (x:InsS):Bool:=decide (x.op=1) || decide (x.op=2) || decide (x.op=22) || decide (x.op=26) || (twoS x.op && !trapsS x.op)
def lookD:List InsS→SetS→Bool
 | [],_=>true
 | x::l,s=>!(plainD x && !hasS s x.dst) && lookD l (backS s x)
def lookB (b:BlockS) (o:SetS):Bool:=lookD b.ins.reverse (useS o (treadsS b.term))
def GoodL (I:InsS→Prop) (bl:List BlockS):Prop:=∀ b∈bl,(∀ x∈b.ins,I x)∧GoodT b.term
theorem nlines_eq (bl:List BlockS):nlines bl=sizeS bl+2 * bl.length:=by
 induction bl with
 | nil=>rfl
 | cons b l ih =>
  simp only [nlines,sizeS,List.map_cons,List.sum_cons,List.length_cons] at ih ⊢
  omega
def ShowI (x:InsS):Prop:=x.ok∧x.args.length≤100000
structure ShowB (bl:List BlockS):Prop where
 good:GoodL ShowI bl
 len:bl.length≤100000
 size:sizeS bl≤1000000
theorem ShowB.ok {f:FuncS} (h:ShowB f.blocks) (hp:fitI f.params) (hn:f.name.data.size≤140737488351232):ShowOK f:=by
 refine ⟨hp,hn,by rw [nlines_eq];have:=h.len;have:=h.size;omega,fun b hb x hx=>(h.good b hb).1 x hx,fun b hb=>(h.good b hb).2,h.len⟩
theorem light_show {p:ProgS} (hok:p.ok) (hl:lightP p=true) (hr:rightP p=true) {f:FuncS} (hf:f∈p.funcs):ShowB f.blocks:=by
 obtain ⟨ho,hc⟩:=light_right hok hl hr f hf
 have hfo:=hok.funcs f hf
 have hrf:∀ b∈f.blocks,b.term.kind=2→0≤b.term.op∧b.term.op < 31:=by
  intro b hb hk
  unfold rightP at hr
  simp only [Bool.and_eq_true,decide_eq_true_eq] at hr
  have h1:=List.all_eq_true.1 hr.2 f hf
  unfold funcOK at h1
  simp only [Bool.and_eq_true,decide_eq_true_eq] at h1
  have h2:=List.all_eq_true.1 h1.2 b hb
  unfold blockOK endsS at h2
  simp only [Bool.and_eq_true,decide_eq_true_eq,Bool.or_eq_true,Bool.not_eq_true',beq_eq_false_iff_ne,ne_eq] at h2
  rcases h2.2.1.2 with h3|h3
  ·exact absurd hk h3
  ·omega
 unfold lightP at hl
 simp only [Bool.and_eq_true,decide_eq_true_eq] at hl
 obtain ⟨m,hm⟩:=Option.isSome_iff_exists.1 hl.2
 obtain ⟨_,_,_,_,l6⟩:=lightF_le hm f hf
 refine ⟨fun b hb=>⟨fun x hx=>⟨(hfo.blocks b hb).ins x hx,by have:=l6 b hb x hx;omega⟩,?_⟩,ho.len,ho.size⟩
 have ht:=(hfo.blocks b hb).term
 exact ⟨ht.a,ht.b,ht.goto,ht.els,hrf b hb⟩
end Go.Proofs.YtjhloakacicdiaaDoor
