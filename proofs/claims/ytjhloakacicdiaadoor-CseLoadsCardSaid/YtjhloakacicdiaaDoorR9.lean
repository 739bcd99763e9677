/-
  What the functions that the law reaches compute,told by plain data;it holds of programs that pass the check of right form and are light.
-/
import Derived.Test.YtjhloakacicdiaaDoorR3
import Derived.Test.YtjhloakacicdiaaDoorR8
set_option linter.unusedVariables false
set_option linter.unusedSimpArgs false
namespace Go.Proofs.YtjhloakacicdiaaDoor
open Go.AH
attribute [local irreducible] W RS
def lightG (g:GlobS):Bool:=decide (g.place≤4096) && decide (g.size≤4096) && decide (g.parts.length≤50) && g.parts.all (fun x=>decide (x.data.length≤4096))
def lightI:List InsS→Nat→Option Nat
 | [],n=>some n
 | x::l,n=>if n+x.args.length≤4000∧-1073741824≤x.off∧x.off≤1073741824 then lightI l (n+x.args.length) else none
def lightB:List BlockS→Nat→Option Nat
 | [],n=>some n
 | b::l,n=>if n+b.ins.length≤2000 then (lightI b.ins (n+b.ins.length)).bind (lightB l) else none
def lightS (f:FuncS):Bool:=f.slots.all (fun s=>decide (0≤s) && decide (s≤1000) && decide (f.slots.length≤4))
def lightF:List FuncS→Nat→Option Nat
 | [],n=>some n
 | f::l,n=>if n+(1+f.blocks.length+f.slots.length)≤2000∧0≤f.regs∧f.regs≤300∧lightS f=true then (lightB f.blocks (n+(1+f.blocks.length+f.slots.length))).bind (lightF l) else none
def lightP (p:ProgS):Bool:=decide (p.funcs.length≤20) && decide (p.globals.length≤20) && decide (0≤p.data) && decide (p.data≤4096) && p.globals.all lightG && (lightF p.funcs 0).isSome
theorem drop_get {α:Type} {l:List α} {i:Nat} {x:α} (h:l[i]?=some x):l.drop i=x::l.drop (i+1):=by
 have hlt:=(List.getElem?_eq_some_iff.1 h).1
 rw [List.drop_eq_getElem_cons hlt]
 rw [List.getElem?_eq_getElem hlt] at h
 injection h with h
 rw [h]
theorem lightI_le:∀ {l:List InsS} {n m:Nat},lightI l n=some m→n≤4000→n≤m∧m≤4000∧∀ x∈l,x.args.length≤4000:=by
 intro l
 induction l with
 | nil =>
  intro n m h hn
  simp only [lightI,Option.some.injEq] at h
  subst h
  exact ⟨Nat.le_refl _,hn,fun x hx=>by cases hx⟩
 | cons a l ih =>
  intro n m h hn
  rw [lightI] at h
  split at h
  ·rename_i hc
   obtain ⟨h1,h2,h3⟩:=ih h (by omega)
   refine ⟨by omega,h2,fun x hx=>?_⟩
   rcases List.mem_cons.1 hx with rfl|hx
   ·omega
   ·exact h3 x hx
  ·cases h
theorem lightB_le:∀ {l:List BlockS} {n m:Nat},lightB l n=some m→n≤4000→n+sizeS l≤m∧m≤4000∧∀ b∈l,∀ x∈b.ins,x.args.length≤4000:=by
 intro l
 induction l with
 | nil =>
  intro n m h hn
  simp only [lightB,Option.some.injEq] at h
  subst h
  exact ⟨Nat.le_refl _,hn,fun x hx=>by cases hx⟩
 | cons a l ih =>
  intro n m h hn
  rw [lightB] at h
  split at h
  ·rename_i hc
   obtain ⟨k,h1,h2⟩:=Option.bind_eq_some_iff.1 h
   obtain ⟨i1,i2,i3⟩:=lightI_le h1 (by omega)
   obtain ⟨j1,j2,j3⟩:=ih h2 i2
   have e:sizeS (a::l)=a.ins.length+sizeS l:=by simp [sizeS]
   refine ⟨by omega,j2,fun b hb=>?_⟩
   rcases List.mem_cons.1 hb with rfl|hb
   ·exact i3
   ·exact j3 b hb
  ·cases h
theorem lightF_le:∀ {l:List FuncS} {n m:Nat},lightF l n=some m→∀ f∈l,(0≤f.regs∧f.regs≤300)∧f.slots.length≤2000∧f.blocks.length≤2000∧sizeS f.blocks≤4000∧∀ b∈f.blocks,∀ x∈b.ins,x.args.length≤4000:=by
 intro l
 induction l with
 | nil=>intro n m _ f hf;cases hf
 | cons a l ih =>
  intro n m h f hf
  rw [lightF] at h
  split at h
  ·rename_i hc
   obtain ⟨k,h1,h2⟩:=Option.bind_eq_some_iff.1 h
   rcases List.mem_cons.1 hf with rfl|hf
   ·obtain ⟨j1,j2,j3⟩:=lightB_le h1 (by omega)
    exact ⟨⟨hc.2.1,hc.2.2.1⟩,by omega,by omega,by omega,j3⟩
   ·exact ih h2 f hf
  ·cases h
theorem tgt_of {f:FuncS} {b:BlockS} (h:endsS f b.term=true):∀ k∈nextS b.term,0≤k∧k < f.blocks.length:=by
 unfold endsS at h
 simp only [Bool.and_eq_true] at h
 intro k hk
 have:=List.all_eq_true.1 h.2 k hk
 simpa using this
structure LightF (p:ProgS) (f:FuncS):Prop where
 ok:OkL f.regs f.blocks
 cp:CopyOK f
theorem reads_fit {x:InsS} (h:x.ok):∀ a∈readsS x,fitI a.reg:=by
 intro a ha
 unfold readsS at ha
 have key:a=x.a∨a=x.b∨a∈x.args:=by
  repeat' split at ha
  all_goals try simp only [List.mem_cons,List.not_mem_nil,or_false] at ha
  all_goals first
   | exact .inr (.inr ha)
   | (rcases ha with ha | ha
      ·exact .inl ha
      ·first|exact .inr (.inr ha)|exact .inr (.inl ha))
   | exact ha.elim
   | exact .inl ha
 rcases key with rfl|rfl|h1
 ·exact h.a.1
 ·exact h.b.1
 ·exact (h.args a h1).1
theorem treads_fit {t:TermS} (h:t.ok):∀ a∈treadsS t,fitI a.reg:=by
 intro a ha
 unfold treadsS at ha
 repeat' split at ha
 all_goals simp only [List.mem_cons,List.not_mem_nil,or_false] at ha
 ·rcases ha with rfl|rfl
  ·exact h.a.1
  ·exact h.b.1
 ·subst ha;exact h.a.1
theorem light_right {p:ProgS} (hok:p.ok) (hl:lightP p=true) (hr:rightP p=true):∀ f∈p.funcs,LightF p f:=by
 intro f hf
 unfold lightP at hl
 simp only [Bool.and_eq_true,decide_eq_true_eq] at hl
 obtain ⟨_,h6⟩:=hl
 obtain ⟨m,hm⟩:=Option.isSome_iff_exists.1 h6
 obtain ⟨⟨l1,l2⟩,l3,l4,l5,l6⟩:=lightF_le hm f hf
 unfold rightP at hr
 simp only [Bool.and_eq_true,decide_eq_true_eq] at hr
 have hrf:=List.all_eq_true.1 hr.2 f hf
 unfold funcOK at hrf
 simp only [Bool.and_eq_true,decide_eq_true_eq] at hrf
 obtain ⟨⟨⟨⟨⟨r1,r2⟩,r3⟩,r4⟩,r5⟩,r6⟩:=hrf
 have hfo:=hok.funcs f hf
 have htg:tgtOK f.blocks:=by
  intro b hb
  have:=List.all_eq_true.1 r6 b hb
  unfold blockOK at this
  simp only [Bool.and_eq_true] at this
  exact tgt_of this.2
 refine ⟨⟨r5,by omega,l1,by omega,htg,by omega,fun b hb x hx=>?_,fun b hb=>treads_fit ((hfo.blocks b hb).term)⟩,⟨r5,by omega,by omega,by omega,fun b hb=>?_,fun b hb x hx=>?_⟩⟩
 ·have h1:=l6 b hb x hx
  have h2:=(hfo.blocks b hb).ins x hx
  exact ⟨by omega,h2.dst,reads_fit h2⟩
 ·have:=sizeS_le hb
  omega
 ·have h1:=l6 b hb x hx
  omega
def DeadR (f f':FuncS):Prop:=∃ bm,CodeS f.regs f.blocks bm∧f'={ f with blocks:=waysS bm }
end Go.Proofs.YtjhloakacicdiaaDoor
namespace Go.AH
variable {P:Program}
section
variable {ops:Array Oper} {draw:Bool} {rs:List Rk} {l:List Oper} {fl:List (Nat × Value)} {nt:Nat} {h:SH} {K:Fr→SH→Prop} {d:Tmp} {ty:TypeId} {pos:String} {af:Array Edge} {gd:Option (Nat × Bool)}
theorem RS.nePtrNil {t e yt:TypeId} {x y:Operand} {A:Option Addr} [hu:TyU P t (.pointer e)] (hw:wantB ops ⟨some d,.binOp .neq t x y yt,ty,pos,af,gd⟩ ⟨fl,nt⟩=some true) (hd:Nat.blt d nt=true)
 (hx:Fr.ev ⟨fl,nt⟩ x=some (.pointer A)) (hy:Fr.ev ⟨fl,nt⟩ y=some (.pointer none))
 (hk:RS P ops draw (recP h.k false [] (some [])::rs) l ⟨(d,.bool (!A.isNone))::fl,nt⟩ h K):RS P ops draw rs (⟨some d,.binOp .neq t x y yt,ty,pos,af,gd⟩::l) ⟨fl,nt⟩ h K :=
 RS.free hw hd (fun a g H=>by
  have:=TX.eqPtrNil (P:=P) (o:=⟨some d,.binOp .neq t x y yt,ty,pos,af,gd⟩) (ev:=a.eval) (h:=H) (op:=.neq) rfl rfl hu.eq (g.ev hx) (g.ev hy)
  simpa using this) (by simp) hk
end
end Go.AH
namespace Go.Proofs.YtjhloakacicdiaaDoor
open Go.AH
attribute [local irreducible] W RS
theorem R_tf (n:Int) (h:Hp):TF Tryd.prog 27 ⟨[.int .i64 n]⟩ h (.agg ⟨[.int .i64 n,.int .i64 0]⟩) h:=by
 refine TF.still (fn:=Tryd.f27) (c:=(Tryd.f27.body.getD .skip)) Tryd.func27 (by kernel_rfl) Tryd.ntmps27 (by kernel_rfl) (by simp) ?_
 conv=>arg 2;whnf
 repeat (first|refine Y25 ?_|refine Y4 ?_|refine Yf ?_|refine Y11 ?_|refine Y0 ?_|refine Y1j ?_|refine Y1 ?_)
 exact endsK_ret _ (.cons (.cellN rfl rfl rfl (Nat.le_of_ble_eq_true rfl)) .nil) ⟨rfl,rfl⟩
def fitT:TermS:=⟨3,0,⟨0,0⟩,⟨0,0⟩,0,0⟩
def fitB:List BlockS:=[⟨[⟨1,1,⟨-1,5⟩,⟨0,0⟩,0,false,false,0,0,[]⟩],fitT⟩]
def fitB1:List BlockS:=[⟨[],fitT⟩]
def fitF:FuncS:=⟨⟨#[109,97,105,110]⟩,0,0,2,[],fitB⟩
def fit14:ProgS:=⟨[fitF],[],0,0⟩
theorem slat_one {α:Type} {h:Hp} {b w:Nat} {cs:List Value} {e:TypeId} {x:α} {R:List Value→α→Prop} (hm:h.m b=some ⟨⟨cs⟩,e⟩) (hl:w≤cs.length) (hR:R (takeV 0 w cs) x):SlAt h (some ⟨b,0,none⟩) w [x] R:=by
 refine ⟨fun i y hy=>?_⟩
 cases i with
 | zero=>simp at hy;subst hy;exact ⟨b,0,cs,e,rfl,hm,by omega,by simpa using hR⟩
 | succ i=>simp at hy
set_option maxRecDepth 100000 in
theorem Nums_tf (a b:List Int) (A1:Option Addr) (c1:Nat) (A2:Option Addr) (c2:Nat) (ha:a.length≤281474976710656) (hb:b.length≤281474976710656) (h:Hp) (s1:SlAt h A1 1 a intR) (s2:SlAt h A2 1 b intR):TF Tryd.prog 32 ⟨[.slice A1 a.length c1,.slice A2 b.length c2]⟩ h (.bool (decide (a=b))) h:=by
 refine TF.dom fun hd=>?_
 refine TF.still (fn:=Tryd.f32) (c:=(Tryd.f32.body.getD .skip)) Tryd.func32 (by kernel_rfl) Tryd.ntmps32 (by kernel_rfl) (by simp) ?_
 conv=>arg 2;whnf
 repeat' (first|refine Y4c ?_|((with_reducible apply RS.cmpNat);iterate 5 exact rfl)|refine Y0 ?_|refine Y2h ?_|refine Y1 ?_|((refine YD ?_ ?_)<;>intro _)|((refine YG ?_ ?_)<;>intro _)|((refine YC ?_ ?_)<;>intro _)|((refine YN ?_ ?_)<;>intro _))
 ·refine endsK_ret _ (.cons (.tmp rfl) .nil) ⟨rfl,?_⟩
  have hne:¬ a.length=b.length:=by simpa using ‹(!decide (a.length=b.length))=true›
  rw [decide_eq_false (fun e=>hne (by rw [e]))];rfl
 ·have heq:a.length=b.length:=by simpa using ‹(!decide (a.length=b.length))=false›
  refine W.loop (X:=Nat) (fun π i=>[(0,.slice A1 a.length c1),(1,.slice A2 b.length c2),(12,.int .i64 a.length),(13,.int .i64 i)]) (fun _=>h) (fun π i=>[]) (fun i=>i≤a.length∧decide (a=b)=decide (a.drop i=b.drop i)) (fun i=>a.length - i) [] 0 ⟨Nat.zero_le _,rfl⟩ (by (refine FitL.mk ?_ ?_ ?_ ?_<;>(repeat' (first|exact trivial|exact rfl|apply And.intro));done)) ?_
  intro π i hI
  obtain ⟨hi,hI⟩:=hI
  dsimp only at hi hI ⊢
  by_cases hlt:i < a.length
  ·obtain ⟨x,hx⟩:∃ g,a[i]?=some g:=⟨_,List.getElem?_eq_getElem hlt⟩
   obtain ⟨y,hy⟩:∃ g,b[i]?=some g:=⟨_,List.getElem?_eq_getElem (by omega)⟩
   obtain ⟨xb,xo,xcs,xe,rfl,hX,hXl,hXv⟩:=s1.get i x hx
   obtain ⟨yb,yo,ycs,ye,rfl,hY,hYl,hYv⟩:=s2.get i y hy
   have hXn:=hd _ _ hX
   have hYn:=hd _ _ hY
   have hXc:=take_nth (j:=0) hXv rfl
   have hYc:=take_nth (j:=0) hYv rfl
   rw [drop_get hx,drop_get hy] at hI
   repeat' (first|refine Ya ?_|((with_reducible apply RS.load1B);(iterate 3 exact rfl);first|exact hX;exact hXn;exact hXc|exact hY;exact hYn;exact hYc)|refine Yh ?_|refine Y3 ?_|refine Yd ?_|refine Yt ?_|refine Y0 ?_|refine Y1v ?_|refine Y1 ?_|refine Y5 ?_|((refine YD ?_ ?_)<;>intro _)|((refine YG ?_ ?_)<;>intro _)|((refine YC ?_ ?_)<;>intro _)|((refine YN ?_ ?_)<;>intro _))
   ·refine endsK_ret _ (.cons (.tmp rfl) .nil) ⟨rfl,?_⟩
    have hne:¬ x=y:=by simpa using ‹(x != y)=true›
    rw [hI,decide_eq_false (fun e=>hne (by injection e))];rfl
   ·have hxy:x=y:=by simpa using ‹(x != y)=false›
    subst hxy
    exact roundK_n (i+1) [] rfl rfl ⟨by omega,by rw [hI];exact decide_eq_decide.2 (by simp)⟩ (by omega) (by (refine FitL.mk ?_ ?_ ?_ ?_<;>(repeat' (first|exact trivial|exact rfl|apply And.intro));done))
  ·repeat (first|refine Y15 ?_|refine Y2 ?_|refine Y0 ?_|refine Y1r ?_|refine Y1 ?_|refine Y6 ?_|refine Yl ?_)
   rw [List.drop_eq_nil_of_le (by omega),List.drop_eq_nil_of_le (by omega)] at hI
   exact endsK_ret _ (.cons (.tmp rfl) .nil) ⟨rfl,by rw [hI];rfl⟩
def shortN (n1 n2:Nat):Bool:=decide (n1 < 3000) && decide (n2 < 3000)
structure WaysOK (bl w:List BlockS):Prop where
 pos:0 < w.length
 le:w.length≤bl.length
 ok:∀ (i:Nat) (b:BlockS),w[i]?=some b→hasS (reachedS w) i=true∧¬ (b.term.kind=2∧b.term.goto=b.term.els)
 tgt:tgtOK w
inductive Reach (bl:List BlockS):Int→Prop
 | zero:Reach bl 0
 | step {k k':Int} (h:Reach bl k) (hn:k'∈nextAt bl k):Reach bl k'
structure ReachV (bl:List BlockS) (s:SetS) (w:List Int):Prop where
 len:bl.length≤s.length * 64
 sound:∀ k:Int,0≤k→k < bl.length→hasS s k=true→Reach bl k
 work:∀ x∈w,0≤x∧x < bl.length∧hasS s x=true
 done:∀ k:Int,0≤k→k < bl.length→hasS s k=true→k∈w∨∀ k'∈nextAt bl k,hasS s k'=true
def NoEq (b:BlockS):Prop:=¬ (b.term.kind=2∧b.term.goto=b.term.els)
structure MeltV (n:Nat) (bl:List BlockS):Prop where
 ne:∀ b∈bl,NoEq b
 tgt:tgtOK bl
 len:bl.length=n
def posL (r:SetS) (bl:List BlockS) (k:Nat):Nat:=(keptL r 0 (bl.take k)).length
end Go.Proofs.YtjhloakacicdiaaDoor
