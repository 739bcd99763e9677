/-
  Walking through code with a list of known values and blocks;it holds of any program whose types are as told.
-/
import Derived.Below
import Derived.Deep.Slices
import Derived.Defers
import Derived.Handed
import Derived.Laws.Small
import Derived.Test.YtbmmchaaiakanaaDoorA1
import Derived.Test.YtbmmchaaiakanaaDoorS1
import GoSem.ClaimChange
import GoSem.ClaimJoined
set_option linter.unusedVariables false
set_option linter.unusedSimpArgs false
namespace Go.AH
variable {P:Program}
def TE (P:Program) (g:FuncId) (B:Hp) (k0:Nat) (kp:List Nat) (args:(Nat→Nat)→List Value) (L:(Nat→Nat)→List (Nat × Option Blk)) (v:Value) (L':(Nat→Nat)→List (Nat × Option Blk)):Prop :=
 ∀ π,(⟨B,π,k0,L π⟩:SH).WF→∃ π',(⟨B,π',k0,L' π'⟩:SH).WF∧π k0≤π' k0∧(∀ i,i < k0→(i∈kp∧π' i=π i∧∃ b,lookB (L π) i=some b)∨(¬ i∈kp∧π k0≤π' i))∧TF P g ⟨args π⟩ (⟨B,π,k0,L π⟩:SH).den v (⟨B,π',k0,L' π'⟩:SH).den
def piE (π π':Nat→Nat) (k:Nat) (m:List Nat) (i:Nat):Nat:=if i < k then (match idx (fun j=>(nthL m j).getD 0) m.length i with|some j=>π' j|none=>π i) else π' m.length+(i - k)
def hidE (n0:Nat) (π:Nat→Nat) (k:Nat) (m:List Nat) (id:Nat):Bool:=if id < n0 then false else match idx π k id with|some a=>!memL a m|none=>false
section
variable {π π':Nat→Nat} {k:Nat} {m:List Nat}
end
section
variable {B:Hp} {π π':Nat→Nat} {k:Nat} {hl L L':List (Nat × Option Blk)} {m kp:List Nat} (w:(⟨B,π,k,hl⟩:SH).WF) (hm:okM m k=true) (hL:∀ i a,nthL m i=some a→lookB L i=lookB hl a)
include w hm
variable (w':(⟨B,π',m.length,L'⟩:SH).WF) (hle:π k≤π' m.length) (hn:∀ i a,nthL m i=some a→π' i=π a∨π k≤π' i)
include w' hle hn
end
section
variable {ops:Array Oper} {rs:List Rk} {l:List Oper} {fl:List (Nat × Value)} {nt:Nat} {B:Hp} {π:Nat→Nat} {k:Nat} {hl:List (Nat × Option Blk)} {K:Fr→SH→Prop} {d:Tmp} {ty:TypeId} {pos:String} {af:Array Edge} {gd:Option (Nat × Bool)}
end
def EqK (f g:Nat→Nat):List Nat→Prop
 | []=>True
 | i::l=>f i=g i∧EqK f g l
def HasK (L:List (Nat × Option Blk)):List Nat→Prop
 | []=>True
 | i::l=>(∃ b,lookB L i=some b)∧HasK L l
def AtE (B:Hp) (π:Nat→Nat) (k0:Nat) (kp:List Nat) (L':(Nat→Nat)→List (Nat × Option Blk)) (v:Value) (vs:List Value) (h':SH):Prop :=
 ∃ m:List Nat,m.length=k0∧okM m h'.k=true∧h'.base=B∧EqK (reX h'.π h'.k m) π kp∧MatchL (L' (reX h'.π h'.k m)) h'.l m 0∧resultOf vs=v
def piK (π:Nat→Nat) (k0:Nat) (kp:List Nat) (N:Nat) (i:Nat):Nat:=if memL i kp=true∧i < k0 then π i else N+i
end Go.AH
namespace Go.AH
variable {P:Program}
def rowC {α:Type} (w:α→List Value):List α→List Value
 | []=>[]
 | a::l=>rowC w l++w a
def rowBk {α:Type} (w:α→List Value) (e:TypeId):List α→Option Blk
 | []=>none
 | a::l=>some ⟨⟨rowC w l++w a⟩,e⟩
def rowVl {α:Type} (sz a:Nat):List α→Value
 | []=>.slice none 0 0
 | _::l=>.slice (some ⟨a,0,none⟩) (l.length+1) (capOf sz)
section
variable {ops:Array Oper} {draw:Bool} {rs:List Rk} {l:List Oper} {fl:List (Nat × Value)} {nt:Nat} {B:Hp} {π:Nat→Nat} {k:Nat} {hl:List (Nat × Option Blk)} {K:Fr→SH→Prop} {d:Tmp} {ty:TypeId} {pos:String} {af:Array Edge} {gd:Option (Nat × Bool)}
end
end Go.AH
namespace Go.AH
variable {P:Program}
section
variable {ops:Array Oper} {draw:Bool} {rs:List Rk} {l:List Oper} {fl:List (Nat × Value)} {nt:Nat} {h:SH} {K:Fr→SH→Prop} {d:Tmp} {ty:TypeId} {pos:String} {af:Array Edge} {gd:Option (Nat × Bool)}
end
end Go.AH
namespace Go.AH
variable {P:Program}
section
variable {ops:Array Oper} {draw:Bool} {rs:List Rk} {l:List Oper} {fl:List (Nat × Value)} {nt:Nat} {h:SH} {K:Fr→SH→Prop} {d:Tmp} {ty:TypeId} {pos:String} {af:Array Edge} {gd:Option (Nat × Bool)}
theorem RS.indexAddrArr [Pend] {t e:TypeId} {x y:Operand} {b off n sz m:Nat} {k:IntKind} [hu:TyU P t (.array n e)] [hs:TySz P e sz] (hw:wantB ops ⟨some d,.indexAddr t x y,ty,pos,af,gd⟩ ⟨fl,nt⟩=some true) (hd:Nat.blt d nt=true) (hx:Fr.ev ⟨fl,nt⟩ x=some (.pointer (some ⟨b,off,none⟩)))
 (hy:Fr.ev ⟨fl,nt⟩ y=some (.int k (m:Int))) (hm:m < n)
 (hk:RS P ops draw (recP h.k false [] none::rs) l ⟨(d,.pointer (some ⟨b,off+m * sz,none⟩))::fl,nt⟩ h K):RS P ops draw rs (⟨some d,.indexAddr t x y,ty,pos,af,gd⟩::l) ⟨fl,nt⟩ h K:=by
 rw [← add_plain] at hk
 have hsz:=hs.eq
 cases hin:P.info? e with
 | none=>rw [hin] at hsz;cases hsz
 | some ti =>
  rw [hin] at hsz
  have h4:ti.size=sz:=by simpa using hsz
  subst h4
  refine RS.still (nv:=none) hw hd (fun a g H=>?_) trivial hk
  have:=TX.indexAddrA (P:=P) (o:=⟨some d,.indexAddr t x y,ty,pos,af,gd⟩) (ev:=a.eval) (h:=H) rfl hu.eq hin (g.ev hx) (g.ev hy) (by omega) (by omega)
  rw [Int.toNat_natCast] at this
  exact this
def byteAt (s:ByteArray) (n:Nat):Int:=match s[n]? with
 | some b=>(b.toNat:Int)
 | none=>0
theorem RS.indexAt [Pend] {t:TypeId} {x y:Operand} {s:ByteArray} {k:IntKind} {n:Nat} [hu:TyU P t .string] (hw:wantB ops ⟨some d,.index t x y,ty,pos,af,gd⟩ ⟨fl,nt⟩=some true) (hd:Nat.blt d nt=true) (hx:Fr.ev ⟨fl,nt⟩ x=some (.string s)) (hy:Fr.ev ⟨fl,nt⟩ y=some (.int k (n:Int))) (hn:n < s.size)
 (hk:RS P ops draw (recP h.k false [] (some [])::rs) l ⟨(d,.int .u8 (byteAt s n))::fl,nt⟩ h K):RS P ops draw rs (⟨some d,.index t x y,ty,pos,af,gd⟩::l) ⟨fl,nt⟩ h K:=by
 refine RS.indexStr hw hd hx hy rfl hn ?_
 have:byteAt s n=((s[n]'hn).toNat:Int):=by unfold byteAt;simp [hn]
 rw [← this];exact hk
def u8s (d:List Int):List Value:=d.map (Value.int .u8)
end
section
variable {ops:Array Oper} {draw:Bool} {rs:List Rk} {l:List Oper} {fl:List (Nat × Value)} {nt:Nat} {B:Hp} {π:Nat→Nat} {k:Nat} {hl:List (Nat × Option Blk)} {K:Fr→SH→Prop} {d:Tmp} {ty:TypeId} {pos:String} {af:Array Edge} {gd:Option (Nat × Bool)}
end
end Go.AH
namespace Go.AH
variable {P:Program}
section
variable {ops:Array Oper} {draw:Bool} {rs:List Rk} {l:List Oper} {fl:List (Nat × Value)} {nt:Nat} {h:SH} {K:Fr→SH→Prop} {d:Tmp} {ty:TypeId} {pos:String} {af:Array Edge} {gd:Option (Nat × Bool)}
end
def keptB (m kp:List Nat) (i:Nat):Bool:=match m with
 | []=>true
 | a::m=>go (a::m) 0
where go:List Nat→Nat→Bool
 | [],_=>true
 | a::m,j=>(!Nat.beq a i || memL j kp) && go m (j+1)
end Go.AH
namespace Go.AH
variable {P:Program}
section
variable {ops:Array Oper} {draw:Bool} {rs:List Rk} {l:List Oper} {fl:List (Nat × Value)} {nt:Nat} {B:Hp} {π:Nat→Nat} {k:Nat} {hl:List (Nat × Option Blk)} {K:Fr→SH→Prop} {d:Tmp} {ty:TypeId} {pos:String} {af:Array Edge} {gd:Option (Nat × Bool)}
end
end Go.AH
namespace Go.AH
variable {P:Program}
section
variable {ops:Array Oper} {draw:Bool} {rs:List Rk} {l:List Oper} {fl:List (Nat × Value)} {nt:Nat} {h:SH} {K:Fr→SH→Prop} {d:Tmp} {ty:TypeId} {pos:String} {af:Array Edge} {gd:Option (Nat × Bool)}
end
end Go.AH
namespace Go.AH
variable {P:Program}
section
variable {ops:Array Oper} {draw:Bool} {rs:List Rk} {l:List Oper} {fl:List (Nat × Value)} {nt:Nat} {B:Hp} {π:Nat→Nat} {k:Nat} {hl:List (Nat × Option Blk)} {K:Fr→SH→Prop} {d:Tmp} {ty:TypeId} {pos:String} {af:Array Edge} {gd:Option (Nat × Bool)}
end
end Go.AH
namespace Go.AH
open Go.RowKit
variable {P:Program}
theorem Ext.below {h h':Hp} {ρ ρ':Env} {W W':World} {G:Nat} (hok:HOK G h ρ W) (hok':HOK G h' ρ' W') (hE:Ext h h' ρ ρ' W W') (hkeep:∀ i b,h.m i=some b→h'.m i=some b):Below W.heap.size W W':=by
 refine ⟨hE.os,hE.tape,hE.output,hE.size,fun k hk=>?_⟩
 by_cases hx:∃ i b,rwM≤i∧h.m i=some b∧ρ.loc i=k
 ·obtain ⟨i,b,hi0,hb,rfl⟩:=hx
  have hin:=hok.lt i b hb
  obtain ⟨c,hc,_,hal⟩:=hE.surv i b hin (hkeep i b hb)
  by_cases hcm:b.elem < mapM
  case neg =>
   rcases hok.fits i b hb with ⟨_,_,_,_,_,hw⟩|⟨m,he,_,h2,_⟩
   ·exact absurd (hw hi0).2.2.2.2 hcm
   ·have:=(hok'.fits i b (hkeep i b hb))
    obtain ⟨cs,el⟩:=b
    simp only at h2
    subst h2
    have h3:=(this.map hi0).1
    rw [(hE.agree i hin).1] at h3
    rw [he,h3]
  rcases hal with e|⟨d,d',t,fr,e1,e2,e3,e4⟩|⟨es,es',cl,cl',e1,e2⟩
  ·exact e
  ·obtain ⟨tail,fr1,g1,g2,_⟩:=(hok.fits i b hb).own hi0 (.inr hcm)
   obtain ⟨tail',fr1',k1,k2,_⟩:=(hok'.fits i b (hkeep i b hb)).own hi0 (.inr hcm)
   rw [(hE.agree i hin).1] at k1
   rw [g1] at e1
   rw [k1] at e2
   injection e1 with e1
   injection e1 with a1 a2 a3
   injection e2 with e2
   injection e2 with b1 b2 b3
   rw [g1,k1]
   congr 2
   ·rw [a1,b1]
    apply Array.ext'
    apply List.ext_getElem?
    intro j
    rw [Array.getElem?_toList,Array.getElem?_toList]
    by_cases hj:b.cells.size≤j
    ·exact e4 j hj
    ·have hj':j < b.cells.size:=by omega
     rw [← a1,← b1,Array.getElem?_append_left (by simpa using hj'),Array.getElem?_append_left (by simpa using hj')]
     rw [Array.map_congr_left fun v hv=>ren_agree hE.agree v (hok.bd i b hb v hv)]
   ·rw [a3,b3]
  ·obtain ⟨tail,fr1,g1,_⟩:=(hok.fits i b hb).own hi0 (.inr hcm)
   rw [g1] at e1;cases e1
 ·exact hE.kept k hk fun i b hi0 hb e=>hx ⟨i,b,hi0,hb,e⟩
theorem TF.below {f:FuncId} {args:Array Value} {h h':Hp} {v:Value} (ht:TF P f args h v h') (hkeep:∀ i b,h.m i=some b→h'.m i=some b) (ha:∀ x∈args,bnd h.n x) {ρ:Env} {W:World} (hok:HOK P.globals.size h ρ W) :
 Calls P f (args.map (ren ρ)) W fun e W'=>(∃ ρ',e=.returned (ren ρ' v))∧Below W.heap.size W W':=by
 refine (ht ha ρ W hok).mono ?_
 rintro e W' ⟨ρ',rfl,_,hok',hE⟩
 exact ⟨⟨ρ',rfl⟩,hE.below hok hok' hkeep⟩
def idE (c:Nat→Nat):Env:={ loc:=fun i=>i,cap:=c,sh:=fun _=>0 }
end Go.AH
namespace Go
variable {H:Type} {enc:TypeId × Value→H}
theorem handed_and_shaped {a:Assume} {C:Checked} {os:Os} {f:FuncId} {fn:Func} {s:ChangeSpec} {conds:List PathCond} {apart fresh handsOn again:Bool} {X:World→Array Value→Prop}
 (hX:∀ (w w':World) (args:Array Value),w.heap=w'.heap→X w args→X w' args)
 (own:ownKnob C.prog.godebug=none) (started:os.Started) (noInit:C.prog.inits.idxOf? f=none) (hfn:C.prog.funcs[f]?=some fn)
 (witness:∃ (w:World) (tape:Tape) (i:Input),w.os=os∧(w.forCall tape i).Shaped C.prog∧i.vars=[]∧Input.okWide C.prog (w.forCall tape i) .any w.heap.size f i ∧
  ((s.pre enc C.prog fn conds apart (w.forCall tape i).memory i.args∧X (w.forCall tape i).memory i.args)∧sizedMet enc C.prog fn (OpenSpec.ofChange s) apart (w.forCall tape i).memory i.args)∧a.holds C.prog (lone (Frame.enter C.prog f i.args .normal) [] (w.forCall tape i)))
 (contract:∀ (W:World) (base:Nat) (args:Array Value) (ds gs:List (DataW H)) (before:List MemPlace),
  (∀ (j:Nat) t v,fn.params[j]?=some t→args[j]?=some v→Value.okWide C.prog W .any base t v) →
  DataW.Whole enc C.prog fn.params.toList s.vars apart W args.toList ds gs before →
  conds.all (PathCond.test C.prog ⟨fn.params.toList,ds,s.plain.varTypes C.prog,gs⟩)=true →
  (DataW.weightsEach C.prog (fn.params.toList++s.plain.varTypes C.prog) (ds++gs)).all (·≤reachBytes)=true→X W args→W.ShapedOpen C.prog →
  a.holds C.prog (lone (Frame.enter C.prog f args .normal) [] W) →
  Calls C.prog f args W fun e W'=>∃ v,e=.returned v∧s.post enc C.prog fn apart fresh handsOn again W args v W') :
 ReturnsInHanded a C os f .any (fun w args=>(s.pre enc C.prog fn conds apart w args∧X w args)∧sizedMet enc C.prog fn (OpenSpec.ofChange s) apart w args) (s.post enc C.prog fn apart fresh handsOn again):=by
 refine returnsInHanded_of_calls own started noInit witness ?_
 intro w tape i _ hsh _ hok hpre hholds
 obtain ⟨_,_,_,fn',hfn',_,_,_,_,hval⟩:=hok
 have e:fn'=fn:=Option.some.inj (hfn'.symm.trans hfn)
 subst e
 obtain ⟨⟨⟨ds,gs,before,hw,hc⟩,hx⟩,hz⟩:=hpre
 have hw':=DataW.Whole.of_heap (w':=w.forCall tape i) (by rfl) hw
 refine (contract (w.forCall tape i) w.heap.size i.args ds gs before hval hw' hc (hz.weights hw) (hX _ _ _ (by rfl) hx) hsh hholds).mono fun e W' ⟨v,he,hp⟩=>?_
 subst he
 exact ChangeSpec.post_blind hp
end Go
namespace Go.AH
variable {P:Program}
structure Win where
 addr:Addr
 blk:Option Blk
def envW (G:Nat) (ws:List Win):Env where
 loc i:=if i < G then i else match ws[i - G]? with|some w=>w.addr.block|none=>i
 cap _:=0
 sh i:=if i < G then 0 else match ws[i - G]? with|some w=>w.addr.off|none=>0
def hpW (G:Nat) (g0:Nat→Option Blk) (ws:List Win):Hp where
 m i:=if i < G then g0 i else (ws[i - G]?).bind (·.blk)
 n:=rwM
structure Lay (G:Nat) (W:World) (ws:List Win):Prop where
 fits:∀ (i:Nat) (w:Win) (b:Blk),ws[i]?=some w→w.blk=some b→∃ (pre tail:Array Value) (fr:Nat × Nat),W.heap[w.addr.block]?=some (.cells (pre++b.cells.map (ren (envW G ws))++tail) b.elem fr)∧pre.size=w.addr.off
 bd:∀ (i:Nat) (w:Win) (b:Blk),ws[i]?=some w→w.blk=some b→∀ v∈b.cells,bnd (G+ws.length) v
theorem envW_agree (G:Nat) (ws more:List Win):Agree (G+ws.length) (envW G ws) (envW G (ws++more)):=by
 intro i hi
 unfold envW
 by_cases h:i < G
 ·simp [h]
 ·have:(ws++more)[i - G]?=ws[i - G]?:=List.getElem?_append_left (by omega)
  simp only [h,if_false,this,and_self]
def D (G:Nat) (g0:Nat→Option Blk) (W:World) (cs:List Value) (N:Nat) (Φ:Hp→List Value→Prop):Prop :=
 ∀ ws,Lay G W ws→∃ more acs,Lay G W (ws++more)∧more.length≤N∧acs.map (ren (envW G (ws++more)))=cs∧(∀ v∈acs,bnd (G+(ws++more).length) v)∧Φ (hpW G g0 (ws++more)) acs
def UpΦ (Φ:Hp→List Value→Prop):Prop:=∀ h H acs,(∀ i b,h.m i=some b→H.m i=some b)→Φ h acs→Φ H acs
theorem hpW_up (G:Nat) (g0:Nat→Option Blk) (ws more:List Win):∀ i b,(hpW G g0 ws).m i=some b→(hpW G g0 (ws++more)).m i=some b:=by
 intro i b h
 unfold hpW at h ⊢
 simp only at h ⊢
 split at h
 ·rw [if_pos ‹_›];exact h
 ·rw [if_neg ‹_›]
  cases hw:ws[i - G]? with
  | none=>rw [hw] at h;cases h
  | some w =>
   rw [List.getElem?_append_left (List.getElem?_eq_some_iff.1 hw).1,hw]
   rw [hw] at h;exact h
variable {G:Nat} {g0:Nat→Option Blk} {W:World}
theorem D.free {cs:List Value} (h:∀ v∈cs,bnd 0 v):D G g0 W cs 0 (fun _ acs=>acs=cs):=by
 intro ws hl
 refine ⟨[],cs,by simpa using hl,Nat.le_refl _,?_,fun v hv=>bnd_mono (Nat.zero_le _) v (h v hv),rfl⟩
 exact (List.map_congr_left (g:=id) fun v hv=>ren_free _ v (h v hv)).trans (List.map_id cs)
theorem D.mono {cs:List Value} {N N':Nat} {Φ Φ':Hp→List Value→Prop} (d:D G g0 W cs N Φ) (hN:N≤N') (h:∀ H acs,acs.length=cs.length→Φ H acs→Φ' H acs):D G g0 W cs N' Φ':=by
 intro ws hl
 obtain ⟨more,acs,h1,h2,h3,h4,h5⟩:=d ws hl
 exact ⟨more,acs,h1,Nat.le_trans h2 hN,h3,h4,h _ _ (by rw [← h3,List.length_map]) h5⟩
theorem D.many {N:Nat} {Φ:Hp→List Value→Prop} (u:UpΦ Φ):∀ {css:List (List Value)},(∀ c∈css,D G g0 W c N Φ)→∀ ws,Lay G W ws →
 ∃ (more:List Win) (accs:List (List Value)),Lay G W (ws++more)∧more.length≤css.length * N∧accs.map (List.map (ren (envW G (ws++more))))=css∧(∀ a∈accs,∀ v∈a,bnd (G+(ws++more).length) v)∧∀ a∈accs,Φ (hpW G g0 (ws++more)) a:=by
 intro css
 induction css with
 | nil=>intro _ ws hl;exact ⟨[],[],by simpa using hl,by simp,rfl,(fun a ha=>by cases ha),fun a ha=>by cases ha⟩
 | cons c css ih =>
  intro hd ws hl
  obtain ⟨m1,a1,l1,n1,e1,b1,p1⟩:=hd c (by simp) ws hl
  obtain ⟨m2,as,l2,n2,e2,b2,p2⟩:=ih (fun c' hc=>hd c' (by simp [hc])) _ l1
  rw [List.append_assoc] at l2 e2 b2 p2
  refine ⟨m1++m2,a1::as,l2,by rw [List.length_append,List.length_cons,Nat.succ_mul];omega,?_,fun a ha=>?_,fun a ha=>?_⟩
  ·rw [List.map_cons,e2,← e1]
   congr 1
   refine List.map_congr_left fun v hv=>?_
   rw [← List.append_assoc]
   exact ren_agree (envW_agree G (ws++m1) m2) v (b1 v hv)
  ·rcases List.mem_cons.1 ha with rfl|ha
   ·exact fun v hv=>bnd_mono (by simp only [List.length_append];omega) v (b1 v hv)
   ·exact b2 a ha
  ·rcases List.mem_cons.1 ha with rfl|ha
   ·refine u _ _ _ ?_ p1
    rw [← List.append_assoc]
    exact hpW_up _ _ _ _
   ·exact p2 a ha
theorem Lay.snoc {ws:List Win} (hl:Lay G W ws) (w:Win) (hf:∀ b,w.blk=some b→(∃ (pre tail:Array Value) (fr:Nat × Nat),W.heap[w.addr.block]?=some (.cells (pre++b.cells.map (ren (envW G ws))++tail) b.elem fr)∧pre.size=w.addr.off)∧∀ v∈b.cells,bnd (G+ws.length) v):Lay G W (ws++[w]):=by
 have hag:=envW_agree G ws [w]
 have key:∀ b:Blk,(∀ v∈b.cells,bnd (G+ws.length) v)→b.cells.map (ren (envW G (ws++[w])))=b.cells.map (ren (envW G ws)):=fun b hb=>Array.map_congr_left fun v hv=>ren_agree hag v (hb v hv)
 have split:∀ (i:Nat) (x:Win),(ws++[w])[i]?=some x→ws[i]?=some x∨x=w:=by
  intro i x h
  by_cases hi:i < ws.length
  ·rw [List.getElem?_append_left hi] at h;exact .inl h
  ·rw [List.getElem?_append_right (by omega)] at h
   cases hk:i - ws.length with
   | zero=>rw [hk] at h;simp at h;exact .inr h.symm
   | succ k=>rw [hk] at h;simp at h
 refine ⟨fun i x b hi hb=>?_,fun i x b hi hb=>?_⟩
 ·rcases split i x hi with h|rfl
  ·rw [key b (hl.bd i x b h hb)];exact hl.fits i x b h hb
  ·rw [key b (hf b hb).2];exact (hf b hb).1
 ·intro v hv
  rw [List.length_append]
  rcases split i x hi with h|rfl
  ·exact bnd_mono (by omega) v (hl.bd i x b h hb v hv)
  ·exact bnd_mono (by omega) v ((hf b hb).2 v hv)
structure RowAt (h:Hp) (w:Nat) (accs:List (List Value)) (A:Option Addr) (Φ:Hp→List Value→Prop):Prop where
 all:∀ a∈accs,Φ h a∧a.length=w
 at_:accs≠[]→∃ b e,A=some ⟨b,0,none⟩∧h.m b=some ⟨⟨accs.flatten⟩,e⟩
def RowΦ (w M:Nat) (Φ:Hp→List Value→Prop) (H:Hp) (acs:List Value):Prop :=
 ∃ (A:Option Addr) (c:Nat) (accs:List (List Value)),acs=[.slice A accs.length c]∧RowAt H w accs A Φ∧accs.length≤M∧accs.length≤c∧c < capMark∧(A=none→c=0)
theorem D.sliceNil {w M:Nat} {Φ:Hp→List Value→Prop}:D G g0 W [.slice none 0 0] 0 (RowΦ w M Φ):=by
 intro ws hl
 exact ⟨[],[.slice none 0 0],by simpa using hl,Nat.le_refl _,by simp,fun v hv=>by simp at hv;subst hv;simp,none,0,[],rfl,⟨(fun a ha=>by cases ha),fun h=>absurd rfl h⟩,Nat.zero_le _,Nat.le_refl _,by decide,fun _=>rfl⟩
theorem cells_get {a:Addr} {n:Nat} {cs:List Value} (h:W.cells? 0 a n=some cs):cs.length=n∧∀ j v,cs[j]?=some v→W.cell? (a.add j)=some v:=by
 unfold World.cells? at h
 rw [if_pos (Nat.zero_le _)] at h
 have hlen:∀ (l:List Nat) (cs:List Value),l.mapM (fun i=>W.cell? (a.add i))=some cs→cs.length=l.length∧∀ (j:Nat) (v:Value),cs[j]?=some v→∃ i:Nat,l[j]?=some i∧W.cell? (a.add i)=some v:=by
  intro l
  induction l with
  | nil=>intro cs h;simp at h;subst h;exact ⟨rfl,fun j v h=>by simp at h⟩
  | cons i l ih =>
   intro cs h
   rw [List.mapM_cons] at h
   cases h1:W.cell? (a.add i) with
   | none=>rw [h1] at h;cases h
   | some v0 =>
    rw [h1] at h
    cases h2:l.mapM (fun i=>W.cell? (a.add i)) with
    | none=>rw [h2] at h;cases h
    | some cs0 =>
     rw [h2] at h
     simp only [bind,Option.bind,pure] at h
     injection h with h
     subst h
     obtain ⟨q1,q2⟩:=ih cs0 h2
     refine ⟨by simp [q1],fun j v hj=>?_⟩
     cases j with
     | zero=>simp at hj;subst hj;exact ⟨i,rfl,h1⟩
     | succ j=>simpa using q2 j v (by simpa using hj)
 obtain ⟨q1,q2⟩:=hlen _ _ h
 rw [List.length_range] at q1
 refine ⟨q1,fun j v hj=>?_⟩
 obtain ⟨i,hi,hv⟩:=q2 j v hj
 have hj':=(List.getElem?_eq_some_iff.1 hj).1
 rw [List.getElem?_range (by omega)] at hi
 injection hi with hi
 subst hi;exact hv
theorem flat_get {α:Type} {w:Nat}:∀ {css:List (List α)},(∀ c∈css,c.length=w)→∀ i j,j < w→css.flatten[i * w+j]?=(css[i]?).bind (·[j]?):=by
 intro css
 induction css with
 | nil=>intro _ i j _;simp
 | cons c css ih =>
  intro h i j hj
  have hc:=h c (by simp)
  rw [List.flatten_cons]
  cases i with
  | zero=>rw [List.getElem?_append_left (by omega)];simp
  | succ i =>
   rw [Nat.succ_mul,List.getElem?_append_right (by omega),show i * w+w+j - c.length=i * w+j by omega,ih (fun c' hc'=>h c' (by simp [hc'])) i j hj]
   simp
theorem flat_len {α:Type} {w:Nat}:∀ {css:List (List α)},(∀ c∈css,c.length=w)→css.flatten.length=css.length * w:=by
 intro css
 induction css with
 | nil=>intro _;simp
 | cons c css ih=>intro h;rw [List.flatten_cons,List.length_append,h c (by simp),ih fun c' hc'=>h c' (by simp [hc']),List.length_cons,Nat.succ_mul];omega
theorem D.slice {w N M:Nat} {Φ:Hp→List Value→Prop} (u:UpΦ Φ) {a:Addr} {len cap:Nat} {css:List (List Value)} (hw:0 < w) (hlen:css.length=len) (hd:∀ c∈css,D G g0 W c N Φ) (hc:∀ i c,css[i]?=some c→W.cells? 0 (a.add (i * w)) w=some c) (hle:len≤cap) (hcap:cap < capMark) (hM:len≤M) (hsp:css≠[]→a.spot=none) :
 D G g0 W [.slice (some a) len cap] (len * N+1) (RowΦ w M Φ):=by
 intro ws hl
 obtain ⟨more,accs,l1,n1,e1,b1,p1⟩:=D.many u hd ws hl
 have hal:accs.length=len:=by have:=congrArg List.length e1;rw [List.length_map] at this;omega
 have hwid:∀ c∈css,c.length=w:=by
  intro c hcm
  obtain ⟨i,hi⟩:=List.mem_iff_getElem?.1 hcm
  exact (cells_get (hc i c hi)).1
 have hawid:∀ x∈accs,x.length=w:=by
  intro x hx
  have:x.map (ren (envW G (ws++more)))∈css:=by rw [← e1];exact List.mem_map.2 ⟨x,hx,rfl⟩
  have:=hwid _ this
  rwa [List.length_map] at this
 have hcell:∀ k v,css.flatten[k]?=some v→W.cell? (a.add k)=some v:=by
  intro k v hk
  have hk':k < css.length * w:=by rw [← flat_len hwid];exact (List.getElem?_eq_some_iff.1 hk).1
  have e:k=k / w * w+k % w:=by rw [Nat.mul_comm];exact (Nat.div_add_mod k w).symm
  rw [e,flat_get hwid _ _ (Nat.mod_lt _ hw)] at hk
  cases hx:css[k / w]? with
  | none=>rw [hx] at hk;cases hk
  | some c =>
   rw [hx] at hk
   have:=(cells_get (hc _ c hx)).2 _ v hk
   have e2:(a.add (k / w * w)).add (k % w)=a.add k:=by
    rw [show a.add k=a.add (k / w * w+k % w) by rw [← e]]
    unfold Addr.add
    by_cases h1:k / w * w=0<;>by_cases h2:k % w=0<;>simp [h1,h2,Nat.add_assoc]<;>omega
   rw [e2] at this;exact this
 let ws1:=ws++more
 let blk:Option Blk:=if accs=[] then none else match W.heap[a.block]? with|some (.cells _ t _)=>some ⟨⟨accs.flatten⟩,t⟩|_=>none
 have hflat:(accs.flatten).map (ren (envW G ws1))=css.flatten:=by rw [← e1,List.map_flatten]
 have haf:accs.flatten.length=len * w:=by rw [flat_len hawid,hal]
 have hcells:accs≠[]→∃ c t fr,W.heap[a.block]?=some (.cells c t fr)∧a.off+len * w≤c.size∧∀ k v,css.flatten[k]?=some v→c[a.off+k]?=some v:=by
  intro hne
  have hl0:0 < len:=by rw [← hal];exact List.length_pos_iff.2 hne
  have hsp:=hsp (fun e=>by rw [e] at hlen;simp at hlen;omega)
  have hcf:css.flatten.length=len * w:=by rw [flat_len hwid,hlen]
  have hpos:0 < len * w:=Nat.mul_pos hl0 hw
  have get:∀ k,k < len * w→∃ c t fr,W.heap[a.block]?=some (.cells c t fr)∧c[a.off+k]?=css.flatten[k]?:=by
   intro k hk
   have h1:=hcell k _ (List.getElem?_eq_getElem (by omega:k < css.flatten.length))
   unfold World.cell? at h1
   have hb:(a.add k).block=a.block:=add_block a k
   have ho:(a.add k).off=a.off+k:=by unfold Addr.add;split<;>simp_all
   have hs:(a.add k).spot=none:=by unfold Addr.add;split<;>simp_all
   rw [hb,ho,hs] at h1
   split at h1
   ·rename_i c t fr hh
    simp only [Option.isSome_none,Bool.false_eq_true,if_false] at h1
    exact ⟨c,t,fr,hh,by rw [h1];exact (List.getElem?_eq_getElem _).symm⟩
   ·cases h1
  obtain ⟨c,t,fr,hh,_⟩:=get 0 hpos
  have get':∀ k,k < len * w→c[a.off+k]?=css.flatten[k]?:=by
   intro k hk
   obtain ⟨c',t',fr',hh',hv⟩:=get k hk
   rw [hh] at hh'
   injection hh' with hh'
   injection hh' with q1 q2 q3
   rw [q1];exact hv
  refine ⟨c,t,fr,hh,?_,fun k v hk=>?_⟩
  ·have:=get' (len * w - 1) (by omega)
   rw [List.getElem?_eq_getElem (by omega)] at this
   have:=(Array.getElem?_eq_some_iff.1 this).1
   omega
  ·rw [get' k (by have:=(List.getElem?_eq_some_iff.1 hk).1;omega)];exact hk
 have l2:Lay G W (ws1++[⟨a,blk⟩]):=by
  refine l1.snoc _ fun b hb=>?_
  simp only [blk] at hb
  by_cases hne:accs=[]
  ·rw [if_pos hne] at hb;cases hb
  ·rw [if_neg hne] at hb
   obtain ⟨c,t,fr,hh,hsz,hv⟩:=hcells hne
   rw [hh] at hb
   simp only [Option.some.injEq] at hb
   subst hb
   refine ⟨⟨c.extract 0 a.off,c.extract (a.off+len * w) c.size,fr,?_,by simp;omega⟩,fun v hv=>?_⟩
   ·rw [hh]
    congr 2
    have hmid:(⟨accs.flatten⟩:Array Value).map (ren (envW G ws1))=c.extract a.off (a.off+len * w):=by
     apply Array.ext'
     simp only [List.map_toArray,hflat]
     apply List.ext_getElem?
     intro k
     rw [Array.getElem?_toList (xs:=c.extract a.off (a.off+len * w)),Array.getElem?_extract]
     show css.flatten[k]?=_
     by_cases hk:k < len * w
     ·have hk2:k < css.flatten.length:=by rw [flat_len hwid,hlen];exact hk
      rw [if_pos (by omega),List.getElem?_eq_getElem hk2]
      exact (hv k _ (List.getElem?_eq_getElem hk2)).symm
     ·rw [if_neg (by omega),List.getElem?_eq_none (by rw [flat_len hwid,hlen];omega)]
    rw [hmid,Array.extract_append_extract,Nat.zero_min,Nat.max_eq_right (by omega),Array.extract_append_extract,Nat.zero_min,Nat.max_eq_right (by omega)]
    simp
   ·have hv':v∈accs.flatten:=by simpa using hv
    obtain ⟨x,hx,hvx⟩:=List.mem_flatten.1 hv'
    exact b1 x hx v hvx
 refine ⟨more++[⟨a,blk⟩],[.slice (some ⟨G+ws1.length,0,a.spot⟩) len cap],by rw [← List.append_assoc];exact l2,by rw [List.length_append];simp only [List.length_singleton];rw [hlen] at n1;omega,?_,?_,some ⟨G+ws1.length,0,a.spot⟩,cap,accs,by rw [hal],⟨?_,?_⟩,by omega,by omega,hcap,fun h=>by cases h⟩
 ·simp only [List.map_cons,List.map_nil,ren_slice]
  rw [← List.append_assoc]
  have h1:(ws1++[⟨a,blk⟩])[G+ws1.length - G]?=some ⟨a,blk⟩:=by
   rw [Nat.add_sub_cancel_left,List.getElem?_append_right (Nat.le_refl _)];simp
  have e1:renAddr (envW G (ws1++[⟨a,blk⟩])) ⟨G+ws1.length,0,a.spot⟩=a:=by
   unfold renAddr envW
   simp only [h1]
   rw [if_neg (by omega),if_neg (by omega)]
   obtain ⟨ab,ao,as⟩:=a
   simp
  show [Value.slice (some (renAddr (envW G (ws1++[⟨a,blk⟩])) ⟨G+ws1.length,0,a.spot⟩)) len (renCap _ _ cap)]=_
  rw [e1]
  unfold renCap
  rw [if_pos hcap]
 ·intro v hv
  simp only [List.mem_singleton] at hv
  subst hv
  rw [bnd_slice]
  simp only [List.length_append,List.length_singleton,ws1];omega
 ·intro x hx
  refine ⟨u _ _ _ ?_ (p1 x hx),hawid x hx⟩
  rw [← List.append_assoc]
  exact hpW_up _ _ _ _
 ·intro hne
  obtain ⟨c,t,fr,hh,_⟩:=hcells hne
  refine ⟨G+ws1.length,t,by rw [hsp (fun e=>by rw [e] at hlen;simp at hlen;have:=List.length_pos_iff.2 hne;omega)],?_⟩
  rw [← List.append_assoc]
  unfold hpW
  simp only
  rw [if_neg (by omega),Nat.add_sub_cancel_left,List.getElem?_append_right (Nat.le_refl _)]
  simp only [Nat.sub_self,List.getElem?_cons_zero,Option.bind_some,blk]
  rw [if_neg hne,hh]
theorem hpW_n (G:Nat) (g0:Nat→Option Blk) (ws:List Win):(hpW G g0 ws).n=rwM:=by simp only [hpW]
theorem Lay.hok {ws:List Win} (hl:Lay G W ws) (hG:G+ws.length≤rwM) (hg0:∀ i b,i < G→g0 i=some b→(∃ (tail:Array Value) (fr:Nat × Nat),W.heap[i]?=some (.cells (b.cells++tail) b.elem fr))∧∀ v∈b.cells,bnd 0 v):HOK G (hpW G g0 ws) (envW G ws) W:=by
 refine ⟨fun i b hb=>?_,fun i b hb=>?_,fun i j b c hi0 hb=>?_,fun i b hb=>?_,fun g hg=>?_,Nat.le_of_eq (hpW_n _ _ _).symm,Nat.le_trans (Nat.le_add_right _ _) hG⟩
 ·unfold hpW at hb
  simp only at hb
  split at hb
  ·rename_i hi
   obtain ⟨⟨tail,fr,he⟩,hf⟩:=hg0 i b hi hb
   refine .inl ⟨#[],tail,fr,?_,?_,fun hr=>by omega⟩
   ·unfold envW;simp only [if_pos hi]
    rw [he]
    congr 2
    rw [Array.map_congr_left (g:=id) fun v hv=>ren_free _ v (hf v hv)];simp
   ·unfold envW;simp [hi]
  ·rename_i hi
   cases hw:ws[i - G]? with
   | none=>rw [hw] at hb;cases hb
   | some w =>
    rw [hw] at hb
    obtain ⟨pre,tail,fr,he,hp⟩:=hl.fits _ w b hw hb
    have hlt:=(List.getElem?_eq_some_iff.1 hw).1
    refine .inl ⟨pre,tail,fr,?_,?_,fun hr=>by omega⟩
    ·unfold envW;simp only [if_neg hi,hw];exact he
    ·unfold envW;simp only [if_neg hi,hw];exact hp
 ·unfold hpW at hb ⊢
  simp only at hb ⊢
  split at hb
  ·omega
  ·cases hw:ws[i - G]? with
   | none=>rw [hw] at hb;cases hb
   | some w=>have:=(List.getElem?_eq_some_iff.1 hw).1;omega
 ·exfalso
  unfold hpW at hb
  simp only at hb
  split at hb
  ·omega
  ·cases hw:ws[i - G]? with
   | none=>rw [hw] at hb;cases hb
   | some w=>have:=(List.getElem?_eq_some_iff.1 hw).1;omega
 ·intro v hv
  unfold hpW at hb ⊢
  simp only at hb ⊢
  split at hb
  ·rename_i hi
   exact bnd_mono (Nat.zero_le _) v ((hg0 i b hi hb).2 v hv)
  ·cases hw:ws[i - G]? with
   | none=>rw [hw] at hb;cases hb
   | some w =>
    rw [hw] at hb
    exact bnd_mono hG v (hl.bd _ w b hw hb v hv)
 ·unfold envW;simp [hg]
end Go.AH
namespace Go.AH
variable {P:Program}
def preVl {α:Type} (sz a n:Nat):List α→Value
 | []=>.slice none 0 0
 | _::_=>.slice (some ⟨a,0,none⟩) n (capOf sz)
section
variable {ops:Array Oper} {draw:Bool} {rs:List Rk} {l:List Oper} {fl:List (Nat × Value)} {nt:Nat} {B:Hp} {π:Nat→Nat} {k:Nat} {hl:List (Nat × Option Blk)} {K:Fr→SH→Prop} {d:Tmp} {ty:TypeId} {pos:String} {af:Array Edge} {gd:Option (Nat × Bool)}
end
end Go.AH
namespace Go.AH
variable {P:Program}
structure Absb (h:SH) (B':Hp):Prop where
 dom:∀ i b,B'.m i=some b→i < B'.n
 old:∀ i,i < h.base.n→B'.m i=h.base.m i
 loc:∀ i,i < h.k→B'.m (h.π i)=lookB h.l i
 n:B'.n=h.π h.k
 lo:∀ i,i < h.k→h.base.n≤h.π i
 hi:∀ i,i < h.k→h.π i < B'.n
 inj:∀ i j,i < h.k→j < h.k→h.π i=h.π j→i=j
 le:h.base.n≤B'.n
 rw:rwM≤h.base.n
 bdom:∀ i b,h.base.m i=some b→i < h.base.n
 sat:Sat P B'
theorem Absb.of {h:SH} (w:h.WF) (s:Sat P h.den):Absb (P:=P) h h.den:=by
 obtain ⟨ρ,W,ho⟩:=s
 exact ⟨ho.lt,fun i hi=>by simp only [SH.den];rw [if_pos hi],fun i hi=>SH.m_loc w hi,rfl,w.lo,w.hi,w.inj,w.bn,w.bo,w.bd,⟨ρ,W,ho⟩⟩
theorem Absb.up {h:SH} {B':Hp} (a:Absb (P:=P) h B'):∀ i b,h.base.m i=some b→B'.m i=some b:=fun i b hb=>by rw [a.old i (a.bdom i b hb)];exact hb
theorem Sat.dom {h:Hp} (s:Sat P h):∀ i b,h.m i=some b→i < h.n:=by obtain ⟨ρ,W,ho⟩:=s;exact ho.lt
theorem Sat.rw {h:Hp} (s:Sat P h):rwM≤h.n:=by obtain ⟨ρ,W,ho⟩:=s;exact ho.gle
theorem Sat.wf {h:Hp} (s:Sat P h):(SH.of h).WF:=SH.of_wf s.rw s.dom
theorem Sat.den {h:Hp} (s:Sat P h):(SH.of h).den=h:=SH.of_den s.dom
theorem W.absorbX [Pend] {c:Code} {f:Fr} {h:SH} {K:Exit→Fr→SH→Prop} (hw:∀ (B':Hp) (π:Nat→Nat),Absb (P:=P) h B'→W P c f ⟨B',π,0,[]⟩ K):W P c f h K:=by
 intro a w s b g
 have hden:=s.den
 obtain ⟨e,f1,h1,a1,k1,w1,s1,b1,g1,t1⟩:=hw _ (SH.of h.den).π (Absb.of w s) a s.wf (by show Sat P (SH.of h.den).den;rw [hden];exact s) (by show bndA (SH.of h.den).den.n a;rw [hden];exact b) g
 have t1:TC P c a (SH.of h.den).den e a1 h1.den:=t1
 rw [hden] at t1
 exact ⟨e,f1,h1,a1,k1,w1,s1,b1,g1,t1⟩
theorem TX.more {o:Oper} {a:Act} {h h':Hp} {v:Value} (ht:TX P o a.eval h v h') (hk:∀ x∈o.op.operands,okOp P.globals.size x) (s:Sat P h) (hb:bndA h.n a):h.n≤h'.n∧∀ i b',i < h.n→h'.m i=some b'→∃ b,h.m i=some b:=by
 obtain ⟨ρ,W,ho⟩:=s
 have:=wp_outcome (ht (fun x hx=>eval_bnd ho.gn hb x (hk x hx)) ρ W ho (renA ρ a) (fun _ W'=>∃ ρ',Ext h h' ρ ρ' W W') (fun _ _ _=>False)
  (fun x hx=>eval_ren ho.glob _ x (hk x hx)) fun ρ' W' _ _ hE=>⟨ρ',hE⟩)
 obtain ⟨_,W',ρ',hE⟩:=this
 exact ⟨hE.mono,fun i b' hi hb'=>by obtain ⟨b,h1,_⟩:=hE.surv i b' hi hb';exact ⟨b,h1⟩⟩
theorem RS.stepN [Pend] {ops:Array Oper} {rs:List Rk} {o:Oper} {l:List Oper} {f:Fr} {h:SH} {K:Fr→SH→Prop} (hw:wantB ops o f=some true) (hd:okDst f.nt o.dst=true)
 (h1:∀ a,Agr f a→h.WF→Sat P h.den→bndA h.den.n a→(∀ x∈o.op.operands,okOp P.globals.size x)→∃ v h',TX P o a.eval h.den v h'.den∧h'.WF∧RS P ops false (recP 0 false [] none::rs) l (f.put o.dst v) h' K):RS P ops false rs (o::l) f h K:=by
 intro xs a0 h0 a p
 have hso:ops[xs.length]?=some o:=by
  rw [← Array.getElem?_toList,← p.os,List.getElem?_append_right (by simp)];simp
 have hopk:=okOpsB_ok p.oks hso
 obtain ⟨v,h',htx,hwf,hk⟩:=h1 a p.agr p.wf p.sat p.bnd hopk
 obtain ⟨s1,s2⟩:=TX.sat htx hopk p.sat p.bnd
 obtain ⟨m1,m2⟩:=TX.more htx hopk p.sat p.bnd
 have hhide:∀ H:Hp,H.hide (fun _=>false)=H:=fun H=>Hp.eq (fun id=>by simp [Hp.hide]) rfl
 let x:Inf:={ o:=o,a:=a,h:=h.den,v:=v,h':=h'.den,hid:=fun _=>false,eff:=fun _=>true }
 refine hk (xs++[x]) a0 h0 (a.put o.dst v) ⟨chain_snoc p.chain rfl rfl,?_,?_,?_,(fun hd=>by cases hd),hwf,s1,put_bnd (bndA_mono m1 p.bnd) _ s2,p.agr.put hd v,p.oks⟩
 ·rw [List.map_append,List.append_assoc];exact p.os
 ·intro y hy
  rcases List.mem_append.1 hy with h2|h2
  ·exact p.ok y h2
  ·simp only [List.mem_singleton] at h2
   subst h2
   refine ⟨.inr ⟨wantB_ok p.agr hw,hopk,?_⟩,m1,fun id hid hn=>?_,(fun id he=>by cases he),fun id _=>rfl⟩
   ·show TX P o a.eval (h.den.hide fun _=>false) v (h'.den.hide fun _=>false)
    rw [hhide,hhide];exact htx
   ·show h'.den.m id=none
    cases hc:h'.den.m id with
    | none=>rfl
    | some b' =>
     obtain ⟨b,hb⟩:=m2 id b' hid hc
     have hn:h.den.m id=none:=hn
     rw [hn] at hb;cases hb
 ·simp [p.len]
def EX (P:Program) (g:FuncId) (args:List Value) (h:Hp) (Q:Value→Hp→Prop):Prop:=Sat P h→(∀ v∈args,bnd h.n v)→∃ v h',TF P g ⟨args⟩ h v h'∧Q v h'
theorem EX.mono {g:FuncId} {args:List Value} {h:Hp} {Q Q':Value→Hp→Prop} (he:EX P g args h Q) (hq:∀ v h',Sat P h→Q v h'→Q' v h'):EX P g args h Q':=by
 intro s b
 obtain ⟨v,h',t,q⟩:=he s b
 exact ⟨v,h',t,hq v h' s q⟩
theorem TF.ex {g:FuncId} {args:List Value} {h h':Hp} {v:Value} (ht:TF P g ⟨args⟩ h v h'):EX P g args h (fun v1 h1=>v1=v∧h1=h'):=fun _ _=>⟨v,h',ht,rfl,rfl⟩
section
variable {ops:Array Oper} {rs:List Rk} {l:List Oper} {fl:List (Nat × Value)} {nt:Nat} {h:SH} {K:Fr→SH→Prop} {d:Tmp} {ty:TypeId} {pos:String} {af:Array Edge} {gd:Option (Nat × Bool)}
theorem evAll_bnd [Pend] {n:Nat} {a:Act} {f:Fr} (g:Agr f a) (hG:P.globals.size≤n) (hb:bndA n a):∀ {xs:List Operand} {vs:List Value},(∀ x∈xs,okOp P.globals.size x)→evAll f.l f.nt xs=some vs→∀ v∈vs,bnd n v:=by
 intro xs
 induction xs with
 | nil=>intro vs _ he v hv;simp only [evAll,Option.some.injEq] at he;subst he;cases hv
 | cons x xs ih =>
  intro vs hk he v hv
  have hall:=evAll_ok g he
  have:v∈(x::xs).map a.eval:=by rw [hall];exact hv
  obtain ⟨y,hy,rfl⟩:=List.mem_map.1 this
  exact eval_bnd hG hb y (hk y hy)
theorem RS.callEx [Pend] {g0:FuncId} {xs:Array Operand} {ts:Array TypeId} {vs:List Value} [hg:GF P g0] (hw:wantB ops ⟨some d,.call { callee:=.value (.func g0),args:=xs,argTypes:=ts },ty,pos,af,gd⟩ ⟨fl,nt⟩=some true) (hd:Nat.blt d nt=true)
 (hx:evAll fl nt xs.toList=some vs) (ht:∀ B',Absb (P:=P) h B'→∃ Q,EX P g0 vs B' Q∧∀ v H' π,Q v H'→Sat P H'→B'.n≤H'.n→RS P ops false (recP 0 false [] none::rs) l ⟨(d,v)::fl,nt⟩ ⟨H',π,0,[]⟩ K) :
 RS P ops false rs (⟨some d,.call { callee:=.value (.func g0),args:=xs,argTypes:=ts },ty,pos,af,gd⟩::l) ⟨fl,nt⟩ h K:=by
 refine RS.stepN hw hd fun a g w s b hk=>?_
 obtain ⟨Q,he,hq⟩:=ht _ (Absb.of w s)
 have hgn:P.globals.size≤h.den.n:=by obtain ⟨ρ,W,ho⟩:=s;exact ho.gn
 obtain ⟨v,H',htf,q⟩:=he s (evAll_bnd g hgn b (fun x hx'=>hk x (by simp [Op.operands,Call.operands] at hx' ⊢;first|exact hx'|exact .inr hx'|exact .inl hx')) hx)
 have htx:=tx_call (ty:=ty) (pos:=pos) (af:=af) (gd:=gd) (d:=d) (ts:=ts) g hx htf
 have s1:=(TX.sat htx hk s b).1
 have m1:=(TX.more htx hk s b).1
 exact ⟨v,SH.of H',by rw [s1.den];exact htx,s1.wf,hq v H' _ q s1 m1⟩
theorem RS.callA [Pend] {g0:FuncId} {xs:Array Operand} {ts:Array TypeId} {vs:List Value} {v:Value} [hg:GF P g0] (hw:wantB ops ⟨some d,.call { callee:=.value (.func g0),args:=xs,argTypes:=ts },ty,pos,af,gd⟩ ⟨fl,nt⟩=some true) (hd:Nat.blt d nt=true)
 (hx:evAll fl nt xs.toList=some vs) (ht:∀ B',Absb (P:=P) h B'→TF P g0 ⟨vs⟩ B' v B') (hk:RS P ops false (recP 0 false [] none::rs) l ⟨(d,v)::fl,nt⟩ h K) :
 RS P ops false rs (⟨some d,.call { callee:=.value (.func g0),args:=xs,argTypes:=ts },ty,pos,af,gd⟩::l) ⟨fl,nt⟩ h K :=
 RS.stepN hw hd fun _ g w s _ _=>⟨v,h,tx_call g hx (ht _ (Absb.of w s)),w,hk⟩
end
section
variable {ops:Array Oper} {rs:List Rk} {l:List Oper} {fl:List (Nat × Value)} {nt:Nat} {B:Hp} {π:Nat→Nat} {k:Nat} {hl:List (Nat × Option Blk)} {K:Fr→SH→Prop} {d:Tmp} {ty:TypeId} {pos:String} {af:Array Edge} {gd:Option (Nat × Bool)}
theorem RS.storeB [Pend] {draw:Bool} {t:TypeId} {x y:Operand} {blk off size:Nat} {cs cs':List Value} {e:TypeId} {v:Value} [hu:TySz P t size] (hw:wantB ops ⟨none,.store t x y,ty,pos,af,gd⟩ ⟨fl,nt⟩=some true) (hx:Fr.ev ⟨fl,nt⟩ x=some (.pointer (some ⟨blk,off,none⟩))) (hy:Fr.ev ⟨fl,nt⟩ y=some v)
 (hb:B.m blk=some ⟨⟨cs⟩,e⟩) (hlt:blk < B.n) (hrw:rwM≤blk) (hn:off+size≤cs.length) (hsz:Nat.beq (cellsV v).length size=true) (hone:(cellsV v).all (·.oneCell')=true) (hc:setL cs off (cellsV v)=cs')
 (hk:RS P ops draw (recWB k [] (some [])::rs) l ⟨fl,nt⟩ ⟨B.set blk ⟨⟨cs'⟩,e⟩,π,k,hl⟩ K):RS P ops draw rs (⟨none,.store t x y,ty,pos,af,gd⟩::l) ⟨fl,nt⟩ ⟨B,π,k,hl⟩ K:=by
 have h2:=hu.eq
 cases hti:P.info? t with
 | none=>rw [hti] at h2;cases h2
 | some ti =>
  rw [hti] at h2
  have h3:ti.size=size:=by simpa using h2
  subst h3
  refine RS.step hw rfl (One.writeB (h:=⟨B,π,k,hl⟩) (vl:=[]) (nv:=some []) (b:=⟨⟨cs⟩,e⟩) (b':=⟨⟨cs'⟩,e⟩) hb (fun a g H hs=>?_) Nm_undef hlt) hk
  have hm:H.m blk=some ⟨⟨cs⟩,e⟩:=by rw [hs.b rfl blk hlt];exact hb
  have:=TX.store (P:=P) (o:=⟨none,.store t x y,ty,pos,af,gd⟩) (ev:=a.eval) (h:=H) rfl hti (g.ev hx) rfl hrw hm (by rw [g.ev hy,cellsV_eq];exact Nat.eq_of_beq_eq_true hsz) (by rw [g.ev hy];unfold oneCells;rw [cellsV_eq];simpa using hone) (by simpa using hn)
  rw [g.ev hy] at this
  simp only [setFrom_eq,cellsV_eq,hc] at this
  exact this
theorem RS.callWB [Pend] {draw:Bool} {g0:FuncId} {xs:Array Operand} {ts:Array TypeId} {vs:List Value} {v:Value} {blk:Nat} {b b':Blk} (vl:List Nat) [hg:GF P g0] (hw:wantB ops ⟨some d,.call { callee:=.value (.func g0),args:=xs,argTypes:=ts },ty,pos,af,gd⟩ ⟨fl,nt⟩=some true) (hd:Nat.blt d nt=true)
 (hx:evAll fl nt xs.toList=some vs) (hb:B.m blk=some b) (hlt:blk < B.n) (ht:∀ H:Hp,Sees ⟨B,π,k,hl⟩ true vl H→TF P g0 ⟨vs⟩ H v (H.set blk b'))
 (hk:RS P ops draw (recWB k vl none::rs) l ⟨(d,v)::fl,nt⟩ ⟨B.set blk b',π,k,hl⟩ K):RS P ops draw rs (⟨some d,.call { callee:=.value (.func g0),args:=xs,argTypes:=ts },ty,pos,af,gd⟩::l) ⟨fl,nt⟩ ⟨B,π,k,hl⟩ K :=
 RS.step hw hd (One.writeB (h:=⟨B,π,k,hl⟩) (b:=b) (nv:=none) hb (fun _ g H hs=>tx_call g hx (ht H hs)) trivial hlt) hk
end
section
variable {ops:Array Oper} {draw:Bool} {rs:List Rk} {l:List Oper} {fl:List (Nat × Value)} {nt:Nat} {h:SH} {K:Fr→SH→Prop} {d:Tmp} {ty:TypeId} {pos:String} {af:Array Edge} {gd:Option (Nat × Bool)}
end
theorem ResV.bnd [Pend] {fl:List (Nat × Value)} {nt:Nat} {h:SH} (w:h.WF) (s:Sat P h.den) {r:ResultVar} {v:Value} (hr:ResV P fl h r v) {a:Act} (hb:bndA h.den.n a) (g:Agr ⟨fl,nt⟩ a):Go.AH.bnd h.den.n v:=by
 cases hr with
 | tmp hv=>exact hb.1 _ (Array.mem_of_getElem? (g.get _ _ hv))
 | cell1 hx hi hbk hv =>
  have hm:=SH.m_loc w (blt_iff.1 hi)
  rw [hbk] at hm
  rw [nthV_eq] at hv
  exact s.bd _ _ hm _ (by simpa using List.mem_of_getElem? hv)
 | cellN hx hi hbk hn =>
  have hm:=SH.m_loc w (blt_iff.1 hi)
  rw [hbk] at hm
  rw [bnd_agg]
  intro u hu
  refine s.bd _ _ hm _ ?_
  simp only [List.mem_toArray,takeV_eq] at hu
  simpa using List.mem_of_mem_drop (List.mem_of_mem_take hu)
 | baseN hx hbk hn hv =>
  subst hv
  have hm:=SH.m_base w hbk
  rw [bnd_agg]
  intro u hu
  refine s.bd _ _ hm _ ?_
  simp only [List.mem_toArray,takeV_eq] at hu
  simpa using List.mem_of_mem_drop (List.mem_of_mem_take hu)
theorem ResVs.bnd [Pend] {fl:List (Nat × Value)} {nt:Nat} {h:SH} (w:h.WF) (s:Sat P h.den) {rs:List ResultVar} {vs:List Value} (hr:ResVs P fl h rs vs) {a:Act} (hb:bndA h.den.n a) (g:Agr ⟨fl,nt⟩ a):Go.AH.bnd h.den.n (resultOf vs):=by
 have hall:∀ v∈vs,Go.AH.bnd h.den.n v:=by
  induction hr with
  | nil=>intro v hv;cases hv
  | cons h1 _ ih =>
   intro v hv
   rcases List.mem_cons.1 hv with e|e
   ·subst e;exact h1.bnd w s hb g
   ·exact ih v e
 match vs,hall with
 | [],_=>simp [resultOf]
 | [v],hall=>exact hall v (by simp)
 | u::v::l,hall =>
  simp only [resultOf,bnd_tuple]
  intro x hx
  exact hall x (by simpa using hx)
theorem EX.intro {g:FuncId} {fn:Func} {c:Code} {args:List Value} {nt:Nat} {h:Hp} {Q:Value→Hp→Prop} (hf:P.funcs[g]?=some fn) (hb:fn.body=some c) (ht:fn.ntmps=nt) (hn:Nat.ble args.length nt=true)
 (hw:∀ π:Nat→Nat,Sat P h→W P c ⟨enterL 0 args,nt⟩ ⟨h,π,0,[]⟩ (endsK P fn fun vs h'=>∀ B',Absb (P:=P) h' B'→Q (resultOf vs) B')):EX P g args h Q:=by
 subst ht
 intro s ha
 have hden:=s.den
 obtain ⟨e,f',h',a',k1,w1,s1,b1,g1,t1⟩:=hw (SH.of h).π s (enterAct fn ⟨args⟩) s.wf (by show Sat P (SH.of h).den;rw [hden];exact s) (by show bndA (SH.of h).den.n _;rw [hden];exact enterAct_bnd (fun x hx=>ha x (by simpa using hx))) (enter_agr (ble_iff.1 hn))
 have t1:TC P c (enterAct fn ⟨args⟩) (SH.of h).den e a' h'.den:=t1
 rw [hden] at t1
 have fin:∀ vs,(e=.ret∨e=.normal)→ResVs P f'.l h' fn.results.toList vs→(∀ B',Absb (P:=P) h' B'→Q (resultOf vs) B')→∃ v H,TF P g ⟨args⟩ h v H∧Q v H:=by
  intro vs he hr hq
  refine ⟨resultOf vs,h'.den,TF.intro hf hb he t1 g1.defers (fun hb1 hb2=>?_) (hr.is w1 g1),hq _ (Absb.of w1 s1)⟩
  exact hr.bnd w1 s1 b1 g1
 cases e with
 | ret=>obtain ⟨vs,h1,h2⟩:=k1;exact fin vs (.inl rfl) h1 h2
 | normal=>obtain ⟨vs,h1,h2⟩:=k1;exact fin vs (.inr rfl) h1 h2
 | _=>exact k1.elim
theorem TF.exact {g:FuncId} {fn:Func} {c:Code} {args:List Value} {nt:Nat} {h h2:Hp} {v:Value} (hf:P.funcs[g]?=some fn) (hb:fn.body=some c) (ht:fn.ntmps=nt) (hn:Nat.ble args.length nt=true)
 (hs:Sat P h→h.n≤h2.n∧bnd h2.n v∧∀ i b,h2.m i=some b→i < h2.n∧∀ u∈b.cells,bnd h2.n u)
 (hw:∀ π:Nat→Nat,Sat P h→W P c ⟨enterL 0 args,nt⟩ ⟨h,π,0,[]⟩ (endsK P fn fun vs h'=>∀ B',Absb (P:=P) h' B'→resultOf vs=v∧∀ i b,h2.m i=some b→B'.m i=some b)):TF P g ⟨args⟩ h v h2:=by
 intro ha ρ W hok
 have s:Sat P h:=⟨ρ,W,hok⟩
 obtain ⟨v1,h1,htf,hv,hm⟩:=EX.intro (Q:=fun u B'=>u=v∧∀ i b,h2.m i=some b→B'.m i=some b) hf hb ht hn hw s (fun x hx=>ha x (by simpa using hx))
 subst hv
 obtain ⟨g1,g2,g3⟩:=hs s
 refine (htf ha ρ W hok).mono ?_
 rintro e W' ⟨ρ',rfl,_,hok',hE⟩
 exact ⟨ρ',rfl,g2,⟨fun i b hb=>hok'.fits _ _ (hm i b hb),fun i b hb=>(g3 i b hb).1,fun i j b c hi0 hb hc hl=>hok'.inj _ _ _ _ hi0 (hm i b hb) (hm j c hc) hl,fun i b hb=>(g3 i b hb).2,hok'.glob,Nat.le_trans hok.gle g1,hok.gow⟩,
  ⟨hE.agree,g1,hE.kept,hE.size,fun i b hi0 hb hl=>hE.own i b hi0 (hm i b hb) hl,hE.tape,hE.os,hE.output,fun i b hin hb=>hE.surv i b hin (hm i b hb)⟩⟩
def roundN (P:Program) {X:Type} (F:X→List (Nat × Value)) (I:X→Hp→Prop) (μ:X→Nat) (nt:Nat) (x:X) (K:Exit→Fr→SH→Prop):Exit→Fr→SH→Prop
 | .normal,f,h=>∀ B',Absb (P:=P) h B'→∃ x':X,f.nt=nt∧AllV f.l (F x')∧I x' B'∧μ x' < μ x
 | e,f,h=>K e f h
theorem W.loopN [Pend] {X:Type} {body:Code} {f:Fr} {h:SH} {K:Exit→Fr→SH→Prop} (F:X→List (Nat × Value)) (I:X→Hp→Prop) (μ:X→Nat)
 (h0:∀ B',Absb (P:=P) h B'→∃ x0,AllV f.l (F x0)∧I x0 B') (hr:∀ x B π,Sat P B→I x B→W P body ⟨F x,f.nt⟩ ⟨B,π,0,[]⟩ (roundN P F I μ f.nt x K)):W P (.loop body) f h K:=by
 intro a w s b g
 obtain ⟨x0,hf0,hI0⟩:=h0 _ (Absb.of w s)
 have key:∀ n (x:X) (B:Hp) (f1:Fr) (a1:Act),f1.nt=f.nt→μ x < n→I x B→Sat P B→bndA B.n a1→Agr f1 a1→AllV f1.l (F x) →
  ∃ e f' h' a',K e f' h'∧h'.WF∧Sat P h'.den∧bndA h'.den.n a'∧Agr f' a'∧TR P n body a1 B e a' h'.den:=by
  intro n
  induction n with
  | zero=>intro x B f1 a1 _ hm;omega
  | succ n ih =>
   intro x B f1 a1 hnt hm hI s1 b1 g1 ft
   have hden:=s1.den
   obtain ⟨e,f3,h3,a3,k3,w3,s3,b3,g3,t3⟩:=hr x B (SH.of B).π s1 hI a1 s1.wf (by show Sat P (SH.of B).den;rw [hden];exact s1) (by show bndA (SH.of B).den.n _;rw [hden];exact b1) (g1.weak (by simp [hnt]) fun t v hv=>ft.get t v hv)
   have t3:TC P body a1 (SH.of B).den e a3 h3.den:=t3
   rw [hden] at t3
   have outE:e≠.normal→K e f3 h3→∃ e f' h' a',K e f' h'∧h'.WF∧Sat P h'.den∧bndA h'.den.n a'∧Agr f' a'∧TR P (n+1) body a1 B e a' h'.den :=
    fun hne hk=>⟨e,f3,h3,a3,hk,w3,s3,b3,g3,TR.out t3 hne⟩
   cases e with
   | normal =>
    obtain ⟨x',hnt3,ft',hI',hμ⟩:=k3 _ (Absb.of w3 s3)
    obtain ⟨e,f4,h4,a4,k4,w4,s4,b4,g4,t4⟩:=ih x' _ f3 a3 hnt3 (by omega) hI' s3 b3 g3 ft'
    exact ⟨e,f4,h4,a4,k4,w4,s4,b4,g4,TR.next t3 t4⟩
   | _=>exact outE (by simp) k3
 obtain ⟨e,f',h',a',k1,w1,s1,b1,g1,t1⟩:=key (μ x0+1) x0 h.den f a rfl (by omega) hI0 s b g hf0
 exact ⟨e,f',h',a',k1,w1,s1,b1,g1,TR.loop t1⟩
section
variable {X:Type} {F:X→List (Nat × Value)} {I:X→Hp→Prop} {μ:X→Nat} {nt:Nat} {x:X} {K:Exit→Fr→SH→Prop} {f:Fr} {h:SH}
theorem roundN_n (hn:f.nt=nt) (hx:∀ B',Absb (P:=P) h B'→∃ x':X,AllV f.l (F x')∧I x' B'∧μ x' < μ x):roundN P F I μ nt x K .normal f h:=fun B' hB=>by
 obtain ⟨x',h1,h2,h3⟩:=hx B' hB
 exact ⟨x',hn,h1,h2,h3⟩
theorem roundN_e {i:Nat} (hk:K (.exit i) f h):roundN P F I μ nt x K (.exit i) f h:=hk
def joinN (P:Program) (F:X→List (Nat × Value)) (I:X→Hp→Prop) (nt:Nat) (K:Exit→Fr→SH→Prop):Exit→Fr→SH→Prop
 | .normal,f,h=>∀ B',Absb (P:=P) h B'→∃ x:X,f.nt=nt∧AllV f.l (F x)∧I x B'
 | e,f,h=>K e f h
theorem joinN_n (hn:f.nt=nt) (hx:∀ B',Absb (P:=P) h B'→∃ x:X,AllV f.l (F x)∧I x B'):joinN P F I nt K .normal f h:=fun B' hB=>by
 obtain ⟨x',h1,h2⟩:=hx B' hB
 exact ⟨x',hn,h1,h2⟩
theorem joinN_imp [Pend] {y:Code} (hy:∀ x B π,Sat P B→I x B→W P y ⟨F x,nt⟩ ⟨B,π,0,[]⟩ K):∀ e f h,joinN P F I nt K e f h→thenK P y K e f h:=by
 intro e f h hj
 cases e with
 | normal =>
  refine W.absorbX fun B' π hB=>?_
  obtain ⟨x,hn,ft,hI⟩:=hj B' hB
  exact W.weak (f':=⟨F x,nt⟩) hn.symm (fun t v hv=>ft.get t v hv) (hy x B' π hB.sat hI)
 | _=>exact hj
end
theorem W.joinNT [Pend] {X:Type} {c y:Code} {f:Fr} {h:SH} {K:Exit→Fr→SH→Prop} (F:X→List (Nat × Value)) (I:X→Hp→Prop)
 (hx:W P c f h (joinN P F I f.nt K)) (hy:∀ x B π,Sat P B→I x B→W P y ⟨F x,f.nt⟩ ⟨B,π,0,[]⟩ K):W P c f h (thenK P y K):=W.mono hx (joinN_imp hy)
theorem W.joinNB [Pend] {X:Type} {c y:Code} {id:Nat} {f:Fr} {h:SH} {K:Exit→Fr→SH→Prop} (F:X→List (Nat × Value)) (I:X→Hp→Prop)
 (hx:W P c f h (blockK id (joinN P F I f.nt K))) (hy:∀ x B π,Sat P B→I x B→W P y ⟨F x,f.nt⟩ ⟨B,π,0,[]⟩ K):W P c f h (blockK id (thenK P y K)):=W.mono hx (blockK_mono (joinN_imp hy))
end Go.AH
namespace Go.AH
variable {P:Program}
def WR [Pend] (P:Program) (n:Nat) (c:Code) (f:Fr) (h:SH) (K:Exit→Fr→SH→Prop):Prop :=
 ∀ a,h.WF→Sat P h.den→bndA h.den.n a→Agr f a→∃ e f' h' a',K e f' h'∧h'.WF∧Sat P h'.den∧bndA h'.den.n a'∧Agr f' a'∧TR P n c a h.den e a' h'.den
theorem W.rounds [Pend] (n:Nat) {c:Code} {f:Fr} {h:SH} {K:Exit→Fr→SH→Prop} (hw:WR P n c f h K):W P (.loop c) f h K:=by
 intro a w s b g
 obtain ⟨e,f',h',a',k1,w1,s1,b1,g1,t1⟩:=hw a w s b g
 exact ⟨e,f',h',a',k1,w1,s1,b1,g1,TR.loop t1⟩
def roundR [Pend] (P:Program) (n:Nat) (c:Code) (K:Exit→Fr→SH→Prop):Exit→Fr→SH→Prop
 | .normal,f,h=>WR P n c f h K
 | e,f,h=>K e f h
theorem WR.step [Pend] {n:Nat} {c:Code} {f:Fr} {h:SH} {K:Exit→Fr→SH→Prop} (hw:W P c f h (roundR P n c K)):WR P (n+1) c f h K:=by
 intro a w s b g
 obtain ⟨e,f1,h1,a1,k1,w1,s1,b1,g1,t1⟩:=hw a w s b g
 cases e with
 | normal =>
  obtain ⟨e,f2,h2,a2,k2,w2,s2,b2,g2,t2⟩:=k1 a1 w1 s1 b1 g1
  exact ⟨e,f2,h2,a2,k2,w2,s2,b2,g2,TR.next t1 t2⟩
 | _=>exact ⟨_,f1,h1,a1,k1,w1,s1,b1,g1,TR.out t1 (by simp)⟩
section
variable [Pend] {n:Nat} {c:Code} {f:Fr} {h:SH} {K:Exit→Fr→SH→Prop}
theorem roundR_n (hk:WR P n c f h K):roundR P n c K .normal f h:=hk
theorem roundR_e {i:Nat} (hk:K (.exit i) f h):roundR P n c K (.exit i) f h:=hk
theorem roundR_r (hk:K .ret f h):roundR P n c K .ret f h:=hk
end
end Go.AH
namespace Go.AH
variable {P:Program}
def TFD (P:Program) (g:FuncId) (args:Array Value) (h h':Hp):Prop:=(∀ x∈args,bnd h.n x)→∀ ρ W,HOK P.globals.size h ρ W →
 CallsD P g (args.map (ren ρ)) .returning W fun e u W'=>u=.returning∧∃ v ρ',e=.returned v∧HOK P.globals.size h' ρ' W'∧Ext h h' ρ ρ' W W'
theorem TFD.intro {f:FuncId} {fn:Func} {c:Code} {args:Array Value} {h h':Hp} {a':Act} {v:Value} {e:Exit} (hf:P.funcs[f]?=some fn) (hb:fn.body=some c) (he:e=.ret∨e=.normal)
 (hc:TC P c (enterAct fn args) h e a' h') (hd:a'.defers=[]) (hr:ResIs P fn a' h' v):TFD P f args h h':=by
 intro hargs ρ W hok
 refine (callsD_of_wp (R:=fun e W'=>∃ v ρ',e=.returned v∧HOK P.globals.size h' ρ' W'∧Ext h h' ρ ρ' W W') hf hb ?_).mono fun e u W' h=>h
 rw [← enterAct_ren]
 refine wp_mono (hc (enterAct_bnd hargs) ρ W hok) ?_
 rintro e' A W' ⟨rfl,ρ',rfl,hb',hok',hE⟩
 have:(renA ρ' a').defers=[]:=by simp [renA,hd]
 rcases he with rfl|rfl
 ·exact ⟨this,_,hr ρ' W' hok',_,ρ',rfl,hok',hE⟩
 ·exact ⟨this,_,hr ρ' W' hok',_,ρ',rfl,hok',hE⟩
def EXD (P:Program) (g:FuncId) (args:List Value) (h:Hp) (Q:Hp→Prop):Prop:=Sat P h→(∀ v∈args,bnd h.n v)→∃ h',TFD P g ⟨args⟩ h h'∧Q h'
theorem EXD.intro {g:FuncId} {fn:Func} {c:Code} {args:List Value} {nt:Nat} {h:Hp} {Q:Hp→Prop} (hf:P.funcs[g]?=some fn) (hb:fn.body=some c) (ht:fn.ntmps=nt) (hn:Nat.ble args.length nt=true)
 (hw:∀ π:Nat→Nat,Sat P h→W P c ⟨enterL 0 args,nt⟩ ⟨h,π,0,[]⟩ (endsK P fn fun _ h'=>∀ B',Absb (P:=P) h' B'→Q B')):EXD P g args h Q:=by
 subst ht
 intro s ha
 have hden:=s.den
 obtain ⟨e,f',h',a',k1,w1,s1,b1,g1,t1⟩:=hw (SH.of h).π s (enterAct fn ⟨args⟩) s.wf (by show Sat P (SH.of h).den;rw [hden];exact s) (by show bndA (SH.of h).den.n _;rw [hden];exact enterAct_bnd (fun x hx=>ha x (by simpa using hx))) (enter_agr (ble_iff.1 hn))
 have t1:TC P c (enterAct fn ⟨args⟩) (SH.of h).den e a' h'.den:=t1
 rw [hden] at t1
 have fin:∀ vs,(e=.ret∨e=.normal)→ResVs P f'.l h' fn.results.toList vs→(∀ B',Absb (P:=P) h' B'→Q B')→∃ H,TFD P g ⟨args⟩ h H∧Q H :=
  fun vs he hr hq=>⟨h'.den,TFD.intro hf hb he t1 g1.defers (hr.is w1 g1),hq _ (Absb.of w1 s1)⟩
 cases e with
 | ret=>obtain ⟨vs,h1,h2⟩:=k1;exact fin vs (.inl rfl) h1 h2
 | normal=>obtain ⟨vs,h1,h2⟩:=k1;exact fin vs (.inr rfl) h1 h2
 | _=>exact k1.elim
def WD (D:List Deferred) (P:Program) (c:Code) (f:Fr) (h:SH) (K:List Deferred→Exit→Fr→SH→Prop):Prop :=
 ∀ a,h.WF→Sat P h.den→bndA h.den.n a→@Agr ⟨D⟩ f a→∃ D' e f' h' a',K D' e f' h'∧h'.WF∧Sat P h'.den∧bndA h'.den.n a'∧@Agr ⟨D'⟩ f' a'∧TC P c a h.den e a' h'.den
section
variable {D:List Deferred} {f:Fr} {h:SH} {K:List Deferred→Exit→Fr→SH→Prop}
theorem WD.lift {c:Code} (hw:∀ inst:Pend,inst.D=D→@W inst P c f h (K D)):WD D P c f h K:=by
 intro a w s b g
 obtain ⟨e,f',h',a',k1,w1,s1,b1,g1,t1⟩:=hw ⟨D⟩ rfl a w s b g
 exact ⟨D,e,f',h',a',k1,w1,s1,b1,g1,t1⟩
def thenD (P:Program) (y:Code) (K:List Deferred→Exit→Fr→SH→Prop):List Deferred→Exit→Fr→SH→Prop
 | D,.normal,f,h=>WD D P y f h K
 | D,e,f,h=>K D e f h
theorem WD.seq {x y:Code} (hx:WD D P x f h (thenD P y K)):WD D P (.seq x y) f h K:=by
 intro a w s b g
 obtain ⟨D1,e,f1,h1,a1,k1,w1,s1,b1,g1,t1⟩:=hx a w s b g
 cases e with
 | normal =>
  obtain ⟨D2,e,f2,h2,a2,k2,w2,s2,b2,g2,t2⟩:=k1 a1 w1 s1 b1 g1
  exact ⟨D2,e,f2,h2,a2,k2,w2,s2,b2,g2,TC.seq t1 t2⟩
 | _=>exact ⟨D1,_,f1,h1,a1,k1,w1,s1,b1,g1,TC.seq_out t1 (by simp)⟩
theorem thenD_n {y:Code} (hk:WD D P y f h K):thenD P y K D .normal f h:=hk
end
inductive ResTs (fl:List (Nat × Value)):List ResultVar→List Value→Prop
 | nil:ResTs fl [] []
 | cons {t:Tmp} {rs:List ResultVar} {v:Value} {vs:List Value} (hv:findV fl t=some v) (hs:ResTs fl rs vs):ResTs fl (.tmp t::rs) (v::vs)
theorem ResTs.vs {P:Program} {fl:List (Nat × Value)} {h:SH}:∀ {rs:List ResultVar} {vs:List Value},ResTs fl rs vs→ResVs P fl h rs vs:=by
 intro rs vs hr
 induction hr with
 | nil=>exact .nil
 | cons hv _ ih=>exact .cons (.tmp hv) ih
theorem ResTs.run {fn:Func} {D:List Deferred} {fl:List (Nat × Value)} {nt:Nat} {vs:List Value} (hr:ResTs fl fn.results.toList vs) {a:Act} (g:@Agr ⟨D⟩ ⟨fl,nt⟩ a) {h h2:SH} (w2:h2.WF) {ρ ρ2:Env} {W:World} (hok:HOK P.globals.size h2.den ρ2 W) (hag:Agree h.den.n ρ ρ2) (hb:bndA h.den.n a) (hbv:bnd h.den.n (resultOf vs)):(results fn (renA ρ a).tmps).run P W=.ok (ren ρ2 (resultOf vs)) W:=by
 have h1:=@ResVs.is P ⟨D⟩ fn fl nt h2 w2 vs (hr.vs) a g ρ2 W hok
 have h2:renA ρ2 a=renA ρ a:=renA_agree hag hb
 rw [h2] at h1
 exact h1
def endsD (P:Program) (fn:Func) (Q:List Value→Hp→Prop) (D:List Deferred) (e:Exit) (f:Fr) (h:SH):Prop :=
 (e=.ret∨e=.normal)∧∃ vs,ResTs f.l fn.results.toList vs∧∀ B',Absb (P:=P) h B'→match D with
  | []=>Q vs B'
  | [⟨.fn (.func g) ⟨[]⟩,args⟩]=>∃ Q',GF P g∧EXD P g args.toList B' Q'∧∀ B'',Q' B''→Sat P B''→B'.n≤B''.n→Q vs B''
  | _=>False
theorem invoke_ok {g:FuncId} (hg:GF P g) (as:Array Value) (W:World):(invoke (.fn (.func g) #[]) as).run P W=.ok (.enter g as) W:=by
 have hok:=hg.ok
 cases hf:P.funcs[g]? with
 | none=>rw [hf] at hok;cases hok
 | some fn =>
  rw [hf] at hok
  simp only [Option.map_some,Option.some.injEq,Bool.and_eq_true,Bool.not_eq_true',beq_eq_false_iff_ne,ne_eq] at hok
  have hb:fn.body.isNone=false:=by cases hb:fn.body<;>simp_all
  have hname : (fn.name == "runtime.NumGoroutine") = false := by simpa using hok.1
  simp only [invoke,callFunc,Sem.run_bind,run_program,Result.andThen_ok,hf,hname,hb]
  simp
theorem EX.introD {g:FuncId} {fn:Func} {c:Code} {args:List Value} {nt:Nat} {h:Hp} {Q:Value→Hp→Prop} (hf:P.funcs[g]?=some fn) (hb:fn.body=some c) (ht:fn.ntmps=nt) (hn:Nat.ble args.length nt=true)
 (hw:∀ π:Nat→Nat,Sat P h→WD [] P c ⟨enterL 0 args,nt⟩ ⟨h,π,0,[]⟩ (endsD P fn fun vs B'=>Q (resultOf vs) B')):EX P g args h Q:=by
 subst ht
 intro s ha
 have hden:=s.den
 obtain ⟨D,e,f',h',a',⟨he,vs,hr,k1⟩,w1,s1,b1,g1,t1⟩:=hw (SH.of h).π s (enterAct fn ⟨args⟩) s.wf (by show Sat P (SH.of h).den;rw [hden];exact s) (by show bndA (SH.of h).den.n _;rw [hden];exact enterAct_bnd (fun x hx=>ha x (by simpa using hx))) (enter_agr (ble_iff.1 hn))
 have t1:TC P c (enterAct fn ⟨args⟩) (SH.of h).den e a' h'.den:=t1
 rw [hden] at t1
 have k2:=k1 _ (Absb.of w1 s1)
 have hbv:bnd h'.den.n (resultOf vs):=@ResVs.bnd P ⟨D⟩ f'.l f'.nt h' w1 s1 _ vs hr.vs a' b1 g1
 match D,k2,g1 with
 | [],k2,g1=>exact ⟨resultOf vs,h'.den,TF.intro hf hb he t1 g1.defers (fun _ _=>hbv) (@ResVs.is P ⟨[]⟩ fn f'.l f'.nt h' w1 vs hr.vs a' g1),k2⟩
 | [⟨.fn (.func g2) ⟨[]⟩,⟨as⟩⟩],k2,g1 =>
  obtain ⟨Q',hgf,hex,hq⟩:=k2
  have hgd:a'.defers=[⟨.fn (.func g2) #[],⟨as⟩⟩]:=@Agr.defers ⟨_⟩ _ _ g1
  have hba:∀ v∈as,bnd h'.den.n v:=fun v hv=>by
   have:=(b1.2 ⟨.fn (.func g2) #[],⟨as⟩⟩ (by rw [hgd];simp)).2 v (by simpa using hv)
   exact this
  obtain ⟨h2,htfd,q⟩:=hex s1 hba
  have key:∀ ρ W,HOK P.globals.size h ρ W→Calls P g ((⟨args⟩:Array Value).map (ren ρ)) W fun e W'=>∃ ρ',e=.returned (ren ρ' (resultOf vs))∧bnd h2.n (resultOf vs)∧HOK P.globals.size h2 ρ' W'∧Ext h h2 ρ ρ' W W':=by
   intro ρ W hok
   refine calls_of_wp_defers hf hb ?_
   rw [← enterAct_ren]
   refine wp_mono (t1 (enterAct_bnd (fun x hx=>ha x (by simpa using hx))) ρ W hok) ?_
   rintro e' A W' ⟨rfl,ρ',rfl,hb',hok',hE⟩
   have hD:(renA ρ' a').defers=[⟨.fn (.func g2) #[],(⟨as⟩:Array Value).map (ren ρ')⟩]:=by simp [renA,hgd,renD,renT]
   have hL:Leaves P fn (renA ρ' a').tmps (fun e W'=>∃ ρ',e=.returned (ren ρ' (resultOf vs))∧bnd h2.n (resultOf vs)∧HOK P.globals.size h2 ρ' W'∧Ext h h2 ρ ρ' W W') (renA ρ' a').defers .returning W':=by
    rw [hD]
    refine leaves_cons (f:=g2) (args:=(⟨as⟩:Array Value).map (ren ρ')) (by simp) (invoke_ok hgf _ _) ?_
    refine (htfd (fun x hx=>hba x (by simpa using hx)) ρ' W' hok').mono ?_
    rintro e u W2 ⟨rfl,v,ρ2,rfl,hok2,hE2⟩
    refine ⟨_,hr.run (h:=h') g1 (h2:=SH.of h2) (SH.of_wf hok2.gle hok2.lt) (by rw [SH.of_den hok2.lt];exact hok2) hE2.agree hb' hbv,ρ2,rfl,bnd_mono hE2.mono _ hbv,hok2,hE.trans hE2⟩
   rcases he with rfl|rfl<;>exact hL
  obtain ⟨ρ,W,ho⟩:=s1
  obtain ⟨e2,u2,W2,fr2,⟨_,v2,ρ2,_,hok2,hE2⟩,_⟩:=htfd (fun x hx=>hba x (by simpa using hx)) ρ W ho { (default:Frame) with mode:=.returning } [] rfl
  exact ⟨resultOf vs,h2,fun _ ρ W hok=>key ρ W hok,hq h2 q ⟨ρ2,W2,hok2⟩ hE2.mono⟩
end Go.AH
namespace Go.AH
theorem RS.minN [Pend] {P:Program} {ops:Array Oper} {draw:Bool} {rs:List Rk} {l:List Oper} {fl:List (Nat × Value)} {nt:Nat} {h:SH} {K:Fr→SH→Prop} {d:Tmp} {ty:TypeId} {pos:String} {af:Array Edge} {gd:Option (Nat × Bool)} {t t':TypeId} {x y:Operand} {a b:Nat} (hw:wantB ops ⟨some d,.call { callee:=.builtin .min,args:=#[x,y],argTypes:=#[t,t'] },ty,pos,af,gd⟩ ⟨fl,nt⟩=some true) (hd:Nat.blt d nt=true)
 (hx:Fr.ev ⟨fl,nt⟩ x=some (.int .i64 (a:Int))) (hy:Fr.ev ⟨fl,nt⟩ y=some (.int .i64 (b:Int)))
 (hk:RS P ops draw (recP h.k false [] (some [])::rs) l ⟨(d,.int .i64 ((min a b:Nat):Int))::fl,nt⟩ h K):RS P ops draw rs (⟨some d,.call { callee:=.builtin .min,args:=#[x,y],argTypes:=#[t,t'] },ty,pos,af,gd⟩::l) ⟨fl,nt⟩ h K:=by
 refine RS.free hw hd (v:=.int .i64 ((min a b:Nat):Int)) (fun c g H=>tx_two (u:=.int .i64 (a:Int)) (w:=.int .i64 (b:Int)) rfl (fun _ _=>by simp) (g.ev hx) (g.ev hy) (by simp) (by simp) (by simp) fun ev W hu hw'=>?_) (by simp) hk
 have hu:ev x=.int .i64 (a:Int):=hu
 have hw':ev y=.int .i64 (b:Int):=hw'
 have e:(if (b:Int) < (a:Int) then (b:Int) else (a:Int))=((min a b:Nat):Int):=by split<;>omega
 simp only [execOp,resolve,invoke,builtin,Sem.run_bind,Sem.run_pure,Result.andThen_ok,List.map_toArray,List.map_cons,List.map_nil,hu,hw',run_min_int2,e]
end Go.AH
namespace Go.AH
variable {P:Program}
def f1Of (P:Program) (t:TypeId) (i:Nat):Option Nat:=match P.underlying t with
 | some (.struct fs)=>match fs[i]? with
  | some f=>match P.underlying f.type with
   | some d=>bif aggD d then none else some f.offset
   | none=>none
  | none=>none
 | _=>none
class FOne (P:Program) (t:TypeId) (i:Nat) (off:outParam Nat):Prop where
 eq:f1Of P t i=some off
theorem RS.field1 [Pend] {ops:Array Oper} {draw:Bool} {rs:List Rk} {l:List Oper} {fl:List (Nat × Value)} {nt:Nat} {h:SH} {K:Fr→SH→Prop} {d:Tmp} {ty:TypeId} {pos:String} {af:Array Edge} {gd:Option (Nat × Bool)} {t:TypeId} {x:Operand} {i off:Nat} {cs:Array Value} {v:Value} [ho:FOne P t i off] (hw:wantB ops ⟨some d,.field t x i,ty,pos,af,gd⟩ ⟨fl,nt⟩=some true) (hd:Nat.blt d nt=true)
 (hx:Fr.ev ⟨fl,nt⟩ x=some (.agg cs)) (hv:cs[off]?=some v)
 (hk:RS P ops draw (recP h.k false [] none::rs) l ⟨(d,v)::fl,nt⟩ h K):RS P ops draw rs (⟨some d,.field t x i,ty,pos,af,gd⟩::l) ⟨fl,nt⟩ h K:=by
 have h1:=ho.eq
 unfold f1Of at h1
 split at h1
 ·rename_i fs hu
  split at h1
  ·rename_i f hf
   split at h1
   ·rename_i dd hdd
    cases ha:aggD dd with
    | true=>rw [ha] at h1;cases h1
    | false =>
     rw [ha] at h1
     simp only [cond_false,Option.some.injEq] at h1
     subst h1
     exact RS.still (nv:=none) hw hd (fun a g H=>TX.field1 (P:=P) (o:=⟨some d,.field t x i,ty,pos,af,gd⟩) rfl hu hf hdd ha (g.ev hx) hv) trivial hk
   ·cases h1
  ·cases h1
 ·cases h1
end Go.AH
namespace Go.AH
variable {P:Program}
inductive StkRow (h:Hp) (e:TypeId):Option Addr→Nat→List Value→Prop
 | nil:StkRow h e none 0 []
 | row {r cap:Nat} {vs t:List Value} (hm:h.m r=some ⟨⟨vs++t⟩,e⟩) (hr:rwM≤r) (hc:cap=capOf 1∨(cap=vs.length+t.length∧cap < capMark)):StkRow h e (some ⟨r,0,none⟩) cap vs
section
variable {ops:Array Oper} {rs:List Rk} {l:List Oper} {fl:List (Nat × Value)} {nt:Nat} {B:Hp} {K:Fr→SH→Prop} {d:Tmp} {ty:TypeId} {pos:String} {af:Array Edge} {gd:Option (Nat × Bool)}
end
end Go.AH
namespace Go.AH
variable {P:Program}
def recX (k blk:Nat):Rk:={ vb:=false,vl:=[],k:=k,k':=k,w:=[],wb:=false,nv:=none,cn:=some [],sb:=some fun id=>id == blk }
def recGX (k j:Nat):Rk:={ vb:=true,vl:=[],k:=k,k':=k+1,w:=[],wb:=false,nv:=some [k],cn:=none,eb:=some fun id=>id == j }
def sideOK (j b:Nat):List Rk→Prop
 | []=>True
 | r::rs=>(r.eb=none∨r.eb=some fun id=>id == j)∧(r.sb=none∨r.sb=some fun id=>id == b)∧sideOK j b rs
theorem sideOK_all {j b:Nat} (hne:j≠b):∀ {rs:List Rk},sideOK j b rs→∀ x∈rs,∀ y∈rs,SideX x y:=by
 intro rs h x hx y hy e q he hq id hid
 have key:∀ {rs:List Rk},sideOK j b rs→∀ x∈rs,(x.eb=none∨x.eb=some fun id=>id == j)∧(x.sb=none∨x.sb=some fun id=>id == b):=by
  intro rs
  induction rs with
  | nil=>intro _ x hx;cases hx
  | cons r rs ih =>
   intro h x hx
   rcases List.mem_cons.1 hx with e|e
   ·subst e;exact ⟨h.1,h.2.1⟩
   ·exact ih h.2.2 x e
 have h1:=(key h x hx).1
 have h2:=(key h y hy).2
 rw [he] at h1
 rw [hq] at h2
 rcases h1 with h1|h1
 ·cases h1
 ·rcases h2 with h2|h2
  ·cases h2
  ·injection h1 with h1
   injection h2 with h2
   subst h1;subst h2
   have hid:id=j:=by simpa using hid
   subst hid
   simp [hne]
section
variable {ops:Array Oper} {draw:Bool} {rs:List Rk} {l:List Oper} {fl:List (Nat × Value)} {nt:Nat} {B:Hp} {π:Nat→Nat} {k:Nat} {hl:List (Nat × Option Blk)} {K:Fr→SH→Prop} {d:Tmp} {ty:TypeId} {pos:String} {af:Array Edge} {gd:Option (Nat × Bool)}
theorem RS.load1X [Pend] {t:TypeId} {x:Operand} {blk off:Nat} {cs:List Value} {e:TypeId} {v:Value} [hu:TyOne P t] (hw:wantB ops ⟨some d,.load t x,ty,pos,af,gd⟩ ⟨fl,nt⟩=some true) (hd:Nat.blt d nt=true) (hx:Fr.ev ⟨fl,nt⟩ x=some (.pointer (some ⟨blk,off,none⟩)))
 (hb:B.m blk=some ⟨⟨cs⟩,e⟩) (hlt:blk < B.n) (hv:cs[off]?=some v)
 (hk:RS P ops draw (recX k blk::rs) l ⟨(d,v)::fl,nt⟩ ⟨B,π,k,hl⟩ K):RS P ops draw rs (⟨some d,.load t x,ty,pos,af,gd⟩::l) ⟨fl,nt⟩ ⟨B,π,k,hl⟩ K:=by
 have h1:=hu.eq
 cases ht:P.underlying t with
 | none=>rw [ht] at h1;cases h1
 | some td =>
  rw [ht] at h1
  have h2:aggD td=false:=by simpa using h1
  have heff:∀ id,effR B.n π (recX k blk) id=false:=by
   intro id
   unfold effR recX
   by_cases h:id < B.n
   ·simp [h]
   ·simp only [h,if_false]
    cases hi:idx π k id with
    | none=>rfl
    | some i=>have:=(idx_some hi).1;simp [memL,this]
  refine RS.step hw hd (h':=⟨B,π,k,hl⟩) (v:=v) (r:=recX k blk) ⟨fun w a g=>?_,fun w=>w,rfl,rfl,rfl,rfl,Nat.le_refl _,fun _ _ _=>rfl,(fun _ id he=>by rw [heff] at he;cases he),fun _ _ _ hn=>hn,trivial,(fun _ id b he=>by rw [heff] at he;cases he)⟩ hk
  have hm:((⟨B,π,k,hl⟩:SH).den.hide (hidR B.n π (recX k blk))).m blk=some ⟨⟨cs⟩,e⟩:=by
   have:hidR B.n π (recX k blk) blk=false:=by simp [hidR,recX,hlt]
   simp only [Hp.hide,this]
   exact SH.m_base w hb
  exact TX.load1 (P:=P) (o:=⟨some d,.load t x,ty,pos,af,gd⟩) (ev:=a.eval) rfl ht h2 (g.ev hx) rfl hm (by show cs.toArray[off]?=_;rw [List.getElem?_toArray];exact hv)
theorem SH.kill_base {h:SH} (_w:h.WF) {i:Nat} (hi:i < h.base.n):h.den.kill i=({ h with base:=h.base.kill i }:SH).den:=by
 refine Hp.eq (fun id=>?_) rfl
 simp only [Hp.kill,SH.den]
 by_cases e:id=i
 ·subst e;simp [hi]
 ·simp only [if_neg e]
end
end Go.AH
namespace Go.AH
variable {P:Program}
section
variable {ops:Array Oper} {rs:List Rk} {l:List Oper} {fl:List (Nat × Value)} {nt:Nat} {K:Fr→SH→Prop} {d:Tmp} {ty:TypeId} {pos:String} {af:Array Edge} {gd:Option (Nat × Bool)}
end
end Go.AH
namespace Go.AH
variable {P:Program}
theorem WD.moveDefer {D:List Deferred} {f:Fr} {h:SH} {K:List Deferred→Exit→Fr→SH→Prop} {id:Nat} {d0:Tmp} {x0:Operand} {g0:FuncId} {ts:Array TypeId} {ty ty0:TypeId} {pos pos0:String} {af af0:Array Edge} {v:Value}
 (hk:okOpsB P.globals.size #[⟨some d0,.move x0,ty0,pos0,af0,none⟩,⟨none,.defer { callee:=.value (.func g0),args:=#[.tmp d0],argTypes:=ts },ty,pos,af,none⟩]=true) (hd:okDst f.nt (some d0)=true) (hx:f.ev x0=some v)
 (hn:K ({ target:=.fn (.func g0) #[],args:=⟨[v]⟩ }::D) .normal ⟨(d0,v)::f.l,f.nt⟩ h):WD D P (.region id #[⟨some d0,.move x0,ty0,pos0,af0,none⟩,⟨none,.defer { callee:=.value (.func g0),args:=#[.tmp d0],argTypes:=ts },ty,pos,af,none⟩] false) f h K:=by
 intro a w s b g
 have hopk0:=okOpsB_ok hk (i:=0) (o:=⟨some d0,.move x0,ty0,pos0,af0,none⟩) rfl
 have hopk1:=okOpsB_ok hk (i:=1) (o:=⟨none,.defer { callee:=.value (.func g0),args:=#[.tmp d0],argTypes:=ts },ty,pos,af,none⟩) rfl
 have hgn:P.globals.size≤h.den.n:=by obtain ⟨ρ,W,ho⟩:=s;exact ho.gn
 have hv:a.eval x0=v:=@Agr.ev ⟨D⟩ _ _ g _ _ hx
 have hbv:bnd h.den.n v:=by rw [← hv];exact eval_bnd hgn b x0 (hopk0 x0 (by simp [Op.operands]))
 have g1:=@Agr.put ⟨D⟩ _ _ g (some d0) hd v
 have hev:(a.put (some d0) v).eval (.tmp d0)=v:=@Agr.ev ⟨D⟩ _ _ g1 (.tmp d0) v (by simp [Fr.ev,Fr.put,find_cons])
 have hr:RunOps P #[⟨some d0,.move x0,ty0,pos0,af0,none⟩,⟨none,.defer { callee:=.value (.func g0),args:=#[.tmp d0],argTypes:=ts },ty,pos,af,none⟩] (List.range 2) a h.den { a.put (some d0) v with defers:={ target:=.fn (.func g0) #[],args:=⟨[v]⟩ }::(a.put (some d0) v).defers } h.den:=by
  have h1:RunOps P #[⟨some d0,.move x0,ty0,pos0,af0,none⟩,⟨none,.defer { callee:=.value (.func g0),args:=#[.tmp d0],argTypes:=ts },ty,pos,af,none⟩] [1] (a.put (some d0) v) h.den { a.put (some d0) v with defers:={ target:=.fn (.func g0) #[],args:=⟨[v]⟩ }::(a.put (some d0) v).defers } h.den:=by
   refine RunOps.defer (i:=1) (l:=[]) (o:=⟨none,.defer { callee:=.value (.func g0),args:=#[.tmp d0],argTypes:=ts },ty,pos,af,none⟩) (first:=#[]) (captured:=#[]) (f:=g0) rfl rfl hopk1 rfl rfl ?_
   have e:(#[]++(#[Operand.tmp d0]:Array Operand).map (a.put (some d0) v).eval:Array Value)=⟨[v]⟩:=by
    simp only [List.map_toArray,List.map_cons,List.map_nil,hev,Array.empty_append]
   rw [e]
   exact RunOps.nil _ _
  exact RunOps.run (i:=0) (l:=[1]) (o:=⟨some d0,.move x0,ty0,pos0,af0,none⟩) (v:=v) rfl rfl hopk0 (by rw [← hv];exact TX.move rfl) h1
 have htc:=RunOps.region (id:=id) hr
 have hb1:bndA h.den.n { a.put (some d0) v with defers:={ target:=.fn (.func g0) #[],args:=⟨[v]⟩ }::(a.put (some d0) v).defers }:=by
  have hb2:=put_bnd b (some d0) hbv
  refine ⟨hb2.1,fun q hq=>?_⟩
  rcases List.mem_cons.1 hq with rfl|hq
  ·exact ⟨fun v hv=>absurd hv (by simp),fun u hu=>by
    have:u=v:=by simpa using hu
    rw [this];exact hbv⟩
  ·exact hb2.2 q hq
 refine ⟨_,_,_,h,{ a.put (some d0) v with defers:={ target:=.fn (.func g0) #[],args:=⟨[v]⟩ }::(a.put (some d0) v).defers },hn,w,s,hb1,?_,htc⟩
 have e1:(a.put (some d0) v).tmps.size=f.nt:=@Agr.size ⟨D⟩ (f.put (some d0) v) _ g1
 have e2:(a.put (some d0) v).defers=D:=@Agr.defers ⟨D⟩ (f.put (some d0) v) _ g1
 have e3:∀ t u,findV ((d0,v)::f.l) t=some u→(a.put (some d0) v).tmps[t]?=some u:=@Agr.get ⟨D⟩ (f.put (some d0) v) _ g1
 refine @Agr.mk ⟨⟨.fn (.func g0) #[],⟨[v]⟩⟩::D⟩ _ _ e1 ?_ e3
 show _::_=_::D
 rw [e2]
theorem WD.plain {c y:Code} {f:Fr} {h:SH} {D:List Deferred} {K:List Deferred→Exit→Fr→SH→Prop} (hw:∀ inst:Pend,inst.D=D→@W inst P c f h fun e f h=>thenD P y K D e f h):WD D P (.seq c y) f h K:=WD.seq (WD.lift hw)
end Go.AH
namespace Go.AH
variable {P:Program}
section
variable {ops:Array Oper} {rs:List Rk} {l:List Oper} {fl:List (Nat × Value)} {nt:Nat} {K:Fr→SH→Prop} {d:Tmp} {ty:TypeId} {pos:String} {af:Array Edge} {gd:Option (Nat × Bool)}
end
end Go.AH
namespace Go.AH
variable {P:Program}
section
variable {ops:Array Oper} {draw:Bool} {rs:List Rk} {l:List Oper} {fl:List (Nat × Value)} {nt:Nat} {B:Hp} {π:Nat→Nat} {k:Nat} {hl:List (Nat × Option Blk)} {K:Fr→SH→Prop} {d:Tmp} {ty:TypeId} {pos:String} {af:Array Edge} {gd:Option (Nat × Bool)}
end
end Go.AH
namespace Go.AH
variable {P:Program}
theorem SH.WF.grow {h:SH} (w:h.WF) (l:List (Nat × Option Blk)):∀ d,({ h with k:=h.k+d,l:=l }:SH).WF:=by
 intro d
 induction d with
 | zero=>exact w.setL l
 | succ d ih=>exact ih.push l
def rowsOf (π:Nat→Nat) (H:Hp):Nat→List (Nat × Option Blk)
 | 0=>[]
 | k+1=>(k,H.m (π k))::rowsOf π H k
theorem rowsOf_at (π:Nat→Nat) (H:Hp):∀ k i,i < k→lookB (rowsOf π H k) i=H.m (π i):=by
 intro k
 induction k with
 | zero=>intro i hi;omega
 | succ k ih =>
  intro i hi
  rw [rowsOf,look_cons]
  by_cases e:k=i
  ·subst e;rw [if_pos rfl]
  ·rw [if_neg e];exact ih i (by omega)
theorem SH.part {h:SH} (w:h.WF) {H:Hp} (hle:h.den.n≤H.n) (hsv:∀ i b,i < h.den.n→H.m i=some b→∃ c,h.den.m i=some c) (hdom:∀ i b,H.m i=some b→i < H.n) (hold:∀ i,i < h.base.n→H.m i=h.base.m i) :
 ∃ d,H.n=h.den.n+d∧({ base:=h.base,π:=h.π,k:=h.k+d,l:=rowsOf h.π H (h.k+d) }:SH).den=H∧({ base:=h.base,π:=h.π,k:=h.k+d,l:=rowsOf h.π H (h.k+d) }:SH).WF:=by
 obtain ⟨D,hD⟩:∃ D,H.n=h.den.n+D:=⟨H.n - h.den.n,by omega⟩
 refine ⟨D,hD,?_,w.grow _ _⟩
 have hn:h.π (h.k+D)=H.n:=by rw [w.mono,hD];rfl
 refine Hp.eq (fun id=>?_) hn
 simp only [SH.den]
 by_cases hlt:id < h.base.n
 ·rw [if_pos hlt,hold id hlt]
 ·rw [if_neg hlt]
  cases hi:idx h.π (h.k+D) id with
  | some i =>
   obtain ⟨g1,g2⟩:=idx_some hi
   show lookB (rowsOf h.π H (h.k+D)) i=H.m id
   rw [rowsOf_at _ _ _ _ g1,g2]
  | none =>
   show none=H.m id
   cases hm:H.m id with
   | none=>rfl
   | some b =>
    exfalso
    have wg:=w.grow [] D
    have at':∀ i,i < h.k+D→h.π i≠id:=by
     intro i hlti e
     have:=idx_at (π:=h.π) (k:=h.k+D) wg.inj hlti
     rw [e,hi] at this
     cases this
    by_cases hl2:id < h.den.n
    ·obtain ⟨c,hc⟩:=hsv id b hl2 hm
     simp only [SH.den] at hc
     rw [if_neg hlt] at hc
     cases hj:idx h.π h.k id with
     | none=>rw [hj] at hc;cases hc
     | some j =>
      obtain ⟨q1,q2⟩:=idx_some hj
      exact at' j (by omega) q2
    ·have h3:=hdom id b hm
     have h4:=w.mono (id - h.den.n)
     refine at' (h.k+(id - h.den.n)) (by omega) ?_
     rw [h4]
     show h.den.n+(id - h.den.n)=id
     omega
def recY (k k':Nat):Rk:={ vb:=true,vl:=List.range k,k:=k,k':=k',w:=List.range k,wb:=false,nv:=none,cn:=none }
theorem hidY {n0:Nat} {π:Nat→Nat} {k k' id:Nat} (h:id < n0∨(idx π k' id).isSome=true):hidR n0 π (recY k k') id=false:=by
 unfold hidR recY
 by_cases hlt:id < n0
 ·simp [hlt]
 ·rcases h with h|h
  ·exact absurd h hlt
  ·simp only [hlt,if_false]
   cases hi:idx π k' id with
   | none=>rw [hi] at h;cases h
   | some i =>
    simp only
    by_cases hik:k≤i
    ·simp [hik]
    ·have:memL i (List.range k)=true:=memL_iff.2 (List.mem_range.2 (by omega))
     simp [this]
theorem effY {n0:Nat} {π:Nat→Nat} {k k' id:Nat}:effR n0 π (recY k k') id=true↔¬ id < n0∧(idx π k' id).isSome=true:=by
 unfold effR recY
 by_cases hlt:id < n0
 ·simp [hlt]
 ·simp only [hlt,if_false]
  cases hi:idx π k' id with
  | none=>simp
  | some i =>
   simp only [Option.isSome_some,not_false_eq_true,and_self,iff_true]
   by_cases hik:k≤i
   ·simp [hik]
   ·have:memL i (List.range k)=true:=memL_iff.2 (List.mem_range.2 (by omega))
    simp [this]
section
variable {ops:Array Oper} {draw:Bool} {rs:List Rk} {l:List Oper} {fl:List (Nat × Value)} {nt:Nat} {K:Fr→SH→Prop} {d:Tmp} {ty:TypeId} {pos:String} {af:Array Edge} {gd:Option (Nat × Bool)}
theorem RS.stepD [Pend] {o:Oper} {f:Fr} {h:SH} (hw:wantB ops o f=some true) (hd:okDst f.nt o.dst=true)
 (h1:∀ a,Agr f a→h.WF→Sat P h.den→bndA h.den.n a→(∀ x∈o.op.operands,okOp P.globals.size x)→∃ v h' r,One P o f h v h' r∧RS P ops draw (r::rs) l (f.put o.dst v) h' K):RS P ops draw rs (o::l) f h K:=by
 intro xs a0 h0 a p
 have hso:ops[xs.length]?=some o:=by
  rw [← Array.getElem?_toList,← p.os,List.getElem?_append_right (by simp)];simp
 obtain ⟨v,h',r,hone,hk⟩:=h1 a p.agr p.wf p.sat p.bnd (okOpsB_ok p.oks hso)
 exact RS.step hw hd hone hk xs a0 h0 a p
end
end Go.AH
namespace Go.AH
variable {P:Program}
def freeOne (m j:Nat):Nat→List (Nat × Nat)
 | 0=>[]
 | i+1=>bif pairsOne.bitN m i then freeOne m j i else (i,j)::freeOne m j i
def freeAll:List Nat→Nat→List (Nat × Nat)
 | [],_=>[]
 | m::ms,j=>freeOne m j j++freeAll ms (j+1)
noncomputable def freeP (P:Program) (ops:Array Oper):Option (List (Nat × Nat)):=match planD P ops with
 | some l=>some (freeAll (l.map (·.2)) 0)
 | none=>none
theorem mem_freeOne {m j i:Nat}:∀ {n:Nat},i < n→pairsOne.bitN m i=false→(i,j)∈freeOne m j n:=by
 intro n
 induction n with
 | zero=>intro h;omega
 | succ n ih =>
  intro h hb
  rw [freeOne]
  by_cases e:i=n
  ·subst e;rw [hb];simp
  ·have:=ih (by omega) hb
   cases pairsOne.bitN m n with
   | true=>exact this
   | false=>exact List.mem_cons_of_mem _ this
theorem mem_freeAll {i:Nat}:∀ {ms:List Nat} {j0 q m:Nat},ms[q]?=some m→i < j0+q→pairsOne.bitN m i=false→(i,j0+q)∈freeAll ms j0:=by
 intro ms
 induction ms with
 | nil=>intro j0 q m h;simp at h
 | cons m0 ms ih =>
  intro j0 q m h hi hb
  rw [freeAll]
  cases q with
  | zero =>
   simp only [List.getElem?_cons_zero,Option.some.injEq] at h
   subst h
   exact List.mem_append.2 (.inl (mem_freeOne (by simpa using hi) hb))
  | succ q =>
   have:=ih (j0:=j0+1) (q:=q) (by simpa using h) (by omega) hb
   rw [show j0+1+q=j0+(q+1) by omega] at this
   exact List.mem_append.2 (.inr this)
theorem pairsOne_free {m:Nat} {y:Rk}:∀ {l:List Rk} {k:Nat},(∀ i x,l[i]?=some x→pairsOne.bitN m (k+i)=false→pairR x y=true)→pairsOne m y l k=true:=by
 intro l
 induction l with
 | nil=>intro k _;rfl
 | cons x l ih =>
  intro k h
  simp only [pairsOne,Bool.and_eq_true,Bool.or_eq_true]
  refine ⟨?_,ih fun i z hz hb=>h (i+1) z (by simpa using hz) (by rw [show k+(i+1)=k+1+i by omega];exact hb)⟩
  cases hb:pairsOne.bitN m k with
  | true=>exact .inl rfl
  | false=>exact .inr (h 0 x rfl hb)
theorem pairsAll_free {all:List Rk}:∀ {l:List Rk} {ms:List Nat} {j:Nat},(∀ i y m,l[i]?=some y→ms[i]?=some m→pairsOne m y (all.take (j+i)) 0=true)→pairsAll all l ms j=true:=by
 intro l
 induction l with
 | nil=>intro ms j _;cases ms<;>rfl
 | cons z l ih =>
  intro ms j h
  cases ms with
  | nil=>rfl
  | cons m ms =>
   simp only [pairsAll,Bool.and_eq_true]
   exact ⟨h 0 z m rfl rfl,ih fun i y m' hy hm=>by have:=h (i+1) y m' (by simpa using hy) (by simpa using hm);rwa [show j+(i+1)=j+1+i by omega] at this⟩
def pairsOK (rs:List Rk):List (Nat × Nat)→Prop
 | []=>True
 | (i,j)::L=>(∀ x y,rs[i]?=some x→rs[j]?=some y→pairR x y=true)∧pairsOK rs L
theorem pairsOK_mem {rs:List Rk} {i j:Nat}:∀ {L:List (Nat × Nat)},pairsOK rs L→(i,j)∈L→∀ x y,rs[i]?=some x→rs[j]?=some y→pairR x y=true:=by
 intro L
 induction L with
 | nil=>intro _ h;cases h
 | cons p L ih =>
  intro h hm
  rcases List.mem_cons.1 hm with e|e
  ·subst e;exact h.1
  ·exact ih h.2 e
theorem RS.nilP [Pend] {ops:Array Oper} {rs:List Rk} {f:Fr} {h:SH} {K:Fr→SH→Prop} (hm:P.follows .mixedOrders=true) (L:List (Nat × Nat)) (hL:freeP P ops=some L) (hp:pairsOK rs.reverse L) (hs:plainR rs=true) (hk:K f h):RS P ops true rs [] f h K:=by
 refine RS.nilX hm (fun _=>?_) (fun _=>plainR_side hs) hk
 unfold freeP at hL
 unfold finalChk
 cases hpl:planD P ops with
 | none=>rw [hpl] at hL;cases hL
 | some l =>
  rw [hpl] at hL
  simp only [Option.some.injEq] at hL ⊢
  refine pairsAll_free fun j y m hy hmm=>pairsOne_free fun i x hx hb=>?_
  rw [Nat.zero_add] at hx hb
  have hi:i < j:=by
   have:=(List.getElem?_eq_some_iff.1 hx).1
   simp at this;omega
  rw [List.getElem?_take,if_pos hi] at hx
  have:=mem_freeAll (j0:=0) hmm (by omega) hb
  rw [Nat.zero_add,hL] at this
  exact pairsOK_mem hp this x y hx hy
theorem pairR_free {x y:Rk} (h1:x.k=x.k') (h2:x.w=[]) (h3:x.wb=false) (h4:x.eb=none) (h5:x.vl=[]) (h6:x.vb=false) (h7:y.wb=false) (h8:x.k'≤y.k) (h9:x.k'=0):pairR x y=true:=by
 have hb:Nat.beq x.k x.k'=true:=by rw [h1];simp
 have c1:crossB x y=true:=by
  unfold crossB
  rw [h2,h3,h4,hb]
  have hv:(y.vl.all fun j=>!memL j [] && (Nat.blt j x.k || Nat.ble x.k' j))=true:=by
   rw [List.all_eq_true]
   intro j _
   rw [h9]
   simp [memL]
  rw [hv]
  simp [noneB]
 have c2:crossB y x=true:=by
  unfold crossB
  rw [h5,h6,h7,hb]
  simp
 unfold pairR
 rw [c1,c2,hb,ble_iff.2 h8];rfl
def recGL (k q:Nat):Rk:={ vb:=true,vl:=[q],k:=k,k':=k+1,w:=[],wb:=true,nv:=none,cn:=none }
section
variable {ops:Array Oper} {draw:Bool} {rs:List Rk} {l:List Oper} {fl:List (Nat × Value)} {nt:Nat} {B:Hp} {π:Nat→Nat} {k:Nat} {hl:List (Nat × Option Blk)} {K:Fr→SH→Prop} {d:Tmp} {ty:TypeId} {pos:String} {af:Array Edge} {gd:Option (Nat × Bool)}
end
end Go.AH
namespace Go.AH
variable {P:Program}
def cutH (H:Hp) (n:Nat):Hp:=⟨fun i=>if i < n then H.m i else none,n⟩
def recYE (k k':Nat) (e:Nat→Bool):Rk:={ vb:=true,vl:=List.range k,k:=k,k':=k',w:=List.range k,wb:=false,nv:=none,cn:=none,eb:=some e }
theorem hidYE {n0:Nat} {π:Nat→Nat} {k k' id:Nat} {e:Nat→Bool} (h:id < n0∨(idx π k' id).isSome=true):hidR n0 π (recYE k k' e) id=false:=by
 have:=hidY (k:=k) h
 unfold hidR recY at this
 unfold hidR recYE
 exact this
theorem effYE {n0:Nat} {π:Nat→Nat} {k k' id:Nat} {e:Nat→Bool}:effR n0 π (recYE k k' e) id=true↔(id < n0∧e id=true)∨(¬ id < n0∧(idx π k' id).isSome=true):=by
 have:=effY (n0:=n0) (π:=π) (k:=k) (k':=k') (id:=id)
 unfold effR recY at this
 unfold effR recYE
 by_cases hlt:id < n0
 ·simp [hlt]
 ·simp only [hlt,if_false,not_false_eq_true,true_and,false_and,false_or] at this ⊢
  exact this
def sideBut (b:Nat):List Rk→Prop
 | []=>True
 | r::rs=>(r.eb=none∨r.eb=some fun id=>!(id == b))∧(r.sb=none∨r.sb=some fun id=>id == b)∧sideBut b rs
theorem RS.nilPX [Pend] {ops:Array Oper} {rs:List Rk} {f:Fr} {h:SH} {K:Fr→SH→Prop} (hm:P.follows .mixedOrders=true) (L:List (Nat × Nat)) (hL:freeP P ops=some L) (hp:pairsOK rs.reverse L) (hside:∀ x∈rs,∀ y∈rs,SideX x y) (hk:K f h):RS P ops true rs [] f h K:=by
 refine RS.nilX hm (fun _=>?_) (fun _=>hside) hk
 unfold freeP at hL
 unfold finalChk
 cases hpl:planD P ops with
 | none=>rw [hpl] at hL;cases hL
 | some l =>
  rw [hpl] at hL
  simp only [Option.some.injEq] at hL ⊢
  refine pairsAll_free fun j y m hy hmm=>pairsOne_free fun i x hx hb=>?_
  rw [Nat.zero_add] at hx hb
  have hi:i < j:=by
   have:=(List.getElem?_eq_some_iff.1 hx).1
   simp at this;omega
  rw [List.getElem?_take,if_pos hi] at hx
  have:=mem_freeAll (j0:=0) hmm (by omega) hb
  rw [Nat.zero_add,hL] at this
  exact pairsOK_mem hp this x y hx hy
section
variable {ops:Array Oper} {draw:Bool} {rs:List Rk} {l:List Oper} {fl:List (Nat × Value)} {nt:Nat} {K:Fr→SH→Prop} {d:Tmp} {ty:TypeId} {pos:String} {af:Array Edge} {gd:Option (Nat × Bool)}
theorem RS.callYE [Pend] {h:SH} {g0:FuncId} {xs:Array Operand} {ts:Array TypeId} {vs:List Value} (e:Nat→Bool) [hg:GF P g0] (hw:wantB ops ⟨some d,.call { callee:=.value (.func g0),args:=xs,argTypes:=ts },ty,pos,af,gd⟩ ⟨fl,nt⟩=some true) (hd:Nat.blt d nt=true)
 (hx:evAll fl nt xs.toList=some vs) (ht:∀ B',h.den=B'→Absb (P:=P) h B'→∃ Q,EX P g0 vs B' Q∧(∀ v H',Q v H'→∀ i,i < h.base.n→e i=false→H'.m i=B'.m i) ∧
  ∀ v H' k' l',Q v H'→Sat P H'→B'.n≤H'.n→(∀ i c,i < B'.n→H'.m i=some c→∃ c',B'.m i=some c')→({ base:=cutH H' h.base.n,π:=h.π,k:=k',l:=l' }:SH).den=H'→({ base:=cutH H' h.base.n,π:=h.π,k:=k',l:=l' }:SH).WF→h.k≤k'→RS P ops draw (recYE h.k k' e::rs) l ⟨(d,v)::fl,nt⟩ { base:=cutH H' h.base.n,π:=h.π,k:=k',l:=l' } K) :
 RS P ops draw rs (⟨some d,.call { callee:=.value (.func g0),args:=xs,argTypes:=ts },ty,pos,af,gd⟩::l) ⟨fl,nt⟩ h K:=by
 refine RS.stepD hw hd fun a g w s b hk=>?_
 obtain ⟨Q,he,hold,hq⟩:=ht _ rfl (Absb.of w s)
 have hgn:P.globals.size≤h.den.n:=by obtain ⟨ρ,W,ho⟩:=s;exact ho.gn
 obtain ⟨v,H',htf,q⟩:=he s (evAll_bnd g hgn b (fun x hx'=>hk x (by simp [Op.operands,Call.operands] at hx' ⊢;first|exact hx'|exact .inr hx'|exact .inl hx')) hx)
 have htx:=fun {a:Act} (g:Agr ⟨fl,nt⟩ a)=>tx_call (ty:=ty) (pos:=pos) (af:=af) (gd:=gd) (d:=d) (ts:=ts) g hx htf
 have s1:=(TX.sat (htx g) hk s b).1
 obtain ⟨m1,m2⟩:=TX.more (htx g) hk s b
 have w0:({ h with base:=cutH H' h.base.n }:SH).WF:=⟨w.up,w.lo,w.hi,w.inj,w.bn,(fun i c hc=>by
  by_cases hi:i < h.base.n
  ·exact hi
  ·have hc:(if i < h.base.n then H'.m i else none)=some c:=hc
   rw [if_neg hi] at hc;cases hc),w.bo⟩
 have hbase:∀ i,i < h.base.n→H'.m i=(cutH H' h.base.n).m i:=fun i hi=>by
  show _=if i < h.base.n then H'.m i else none
  rw [if_pos hi]
 obtain ⟨dd,_,hden,hwf⟩:=SH.part (h:={ h with base:=cutH H' h.base.n }) w0 (H:=H') m1 (fun i c hi hc=>by
  by_cases hlt:i < h.base.n
  ·refine ⟨c,?_⟩
   show (if i < h.base.n then (cutH H' h.base.n).m i else _)=some c
   rw [if_pos hlt,← hbase i hlt];exact hc
  ·obtain ⟨c',hc'⟩:=m2 i c hi hc
   refine ⟨c',?_⟩
   simp only [SH.den] at hc' ⊢
   rw [if_neg hlt] at hc'
   rw [if_neg (show ¬ i < (cutH H' h.base.n).n from hlt)]
   exact hc') s1.dom hbase
 dsimp only at hden hwf
 have hpi:∀ {id:Nat} {bk:Blk},H'.m id=some bk→id < h.base.n∨(idx h.π (h.k+dd) id).isSome=true:=by
  intro id bk hb
  by_cases hlt:id < h.base.n
  ·exact .inl hlt
  ·right
   rw [← hden] at hb
   simp only [SH.den] at hb
   rw [if_neg (show ¬ id < (cutH H' h.base.n).n from hlt)] at hb
   cases hi:idx h.π (h.k+dd) id with
   | none=>rw [hi] at hb;cases hb
   | some i=>rfl
 have hpi0:∀ {id:Nat} {bk:Blk},h.den.m id=some bk→id < h.base.n∨(idx h.π (h.k+dd) id).isSome=true:=by
  intro id bk hb
  by_cases hlt:id < h.base.n
  ·exact .inl hlt
  ·right
   simp only [SH.den] at hb
   rw [if_neg hlt] at hb
   cases hi:idx h.π h.k id with
   | none=>rw [hi] at hb;cases hb
   | some i =>
    obtain ⟨g1,g2⟩:=idx_some hi
    have:=idx_at (π:=h.π) (k:=h.k+dd) hwf.inj (show i < h.k+dd by omega)
    rw [g2] at this
    rw [this];rfl
 have hh0:h.den.hide (hidR h.base.n h.π (recYE h.k (h.k+dd) e))=h.den:=by
  refine Hp.eq (fun id=>?_) rfl
  simp only [Hp.hide]
  split
  ·rename_i he
   cases hb:h.den.m id with
   | none=>rfl
   | some bk=>rw [hidYE (hpi0 hb)] at he;cases he
  ·rfl
 have hh1:H'.hide (hidR h.base.n h.π (recYE h.k (h.k+dd) e))=H':=by
  refine Hp.eq (fun id=>?_) rfl
  simp only [Hp.hide]
  split
  ·rename_i he
   cases hb:H'.m id with
   | none=>rfl
   | some bk=>rw [hidYE (hpi hb)] at he;cases he
  ·rfl
 refine ⟨v,_,recYE h.k (h.k+dd) e,⟨fun _ a g=>?_,fun _=>hwf,rfl,rfl,rfl,rfl,Nat.le_add_right _ _,fun _ id he=>?_,fun _ id he=>?_,fun _ id hid hn=>?_,trivial,fun _ id bk _ _ u _=>trivial⟩,hq v H' (h.k+dd) _ q s1 m1 m2 hden hwf (Nat.le_add_right _ _)⟩
 ·rw [hden,hh0,hh1];exact htx g
 ·rw [hden]
  by_cases hlt:id < h.base.n
  ·refine hold v H' q id hlt ?_
   cases hei:e id with
   | false=>rfl
   | true =>
    have:effR h.base.n h.π (recYE h.k (h.k+dd) e) id=true:=effYE.2 (.inl ⟨hlt,hei⟩)
    rw [this] at he;cases he
  ·have hno:¬ (idx h.π (h.k+dd) id).isSome=true:=fun hi=>by
    have:effR h.base.n h.π (recYE h.k (h.k+dd) e) id=true:=effYE.2 (.inr ⟨hlt,hi⟩)
    rw [this] at he;cases he
   cases hb:H'.m id with
   | some bk => rcases hpi hb with h1 | h1
                ·exact absurd h1 hlt
                ·exact absurd h1 hno
   | none =>
    cases hb0:h.den.m id with
    | none=>rfl
    | some bk => rcases hpi0 hb0 with h1 | h1
                 ·exact absurd h1 hlt
                 ·exact absurd h1 hno
 ·rcases effYE.1 he with h1|h1
  ·exact hidYE (.inl h1.1)
  ·exact hidYE (.inr h1.2)
 ·rw [hden]
  cases hb:H'.m id with
  | none=>rfl
  | some bk =>
   obtain ⟨c,hc⟩:=m2 id bk hid hb
   have hn:h.den.m id=none:=hn
   rw [hn] at hc;cases hc
end
end Go.AH
namespace Go.AH
variable {P:Program}
def recGE (k j i:Nat):Rk:={ vb:=true,vl:=[i],k:=k,k':=k+1,w:=[],wb:=false,nv:=some [k],cn:=none,eb:=some fun id=>id == j }
section
variable {ops:Array Oper} {draw:Bool} {rs:List Rk} {l:List Oper} {fl:List (Nat × Value)} {nt:Nat} {B:Hp} {π:Nat→Nat} {k:Nat} {hl:List (Nat × Option Blk)} {K:Fr→SH→Prop} {d:Tmp} {ty:TypeId} {pos:String} {af:Array Edge} {gd:Option (Nat × Bool)}
theorem RS.growXL [Pend] {t e:TypeId} {x y:Operand} {i j off len n c sz by':Nat} {cs ds:List Value} {z:Value} {e2:TypeId} [hu:TyU P t (.slice e)] [hs:TySz P e sz] [hb:TyBy P e by'] [hz:TyZ P e z] (hw:wantB ops ⟨some d,.call { callee:=.builtin .append,args:=#[x,y],argTypes:=#[t,t] },ty,pos,af,gd⟩ ⟨fl,nt⟩=some true) (hd:Nat.blt d nt=true)
 (hx:Fr.ev ⟨fl,nt⟩ x=some (.slice (some ⟨j,0,none⟩) len (capOf sz))) (hy:Fr.ev ⟨fl,nt⟩ y=some (.slice (some ⟨π i,off,none⟩) n c)) (hl0:Nat.beq (cellsV z).length sz=true) (hp0:Nat.blt 0 sz=true) (hbj:B.m j=some ⟨⟨cs⟩,e⟩) (hjn:j < B.n) (hjr:rwM≤j) (hcs:cs.length=len * sz)
 (hik:Nat.blt i k=true) (hbi:lookB hl i=some ⟨⟨ds⟩,e2⟩) (hn:off+n * sz≤ds.length) (hone:(takeV off (n * sz) ds).all (·.oneCell')=true) (hbig:(len+n) * by'≤140737488355328) (h63:len+n≤9223372036854775807)
 (hk:RS P ops draw (recGE k j i::rs) l ⟨(d,.slice (some ⟨π k,0,none⟩) (len+n) (capOf sz))::fl,nt⟩ ⟨B.kill j,π,k+1,(k,some ⟨⟨cs++takeV off (n * sz) ds⟩,e⟩)::hl⟩ K):RS P ops draw rs (⟨some d,.call { callee:=.builtin .append,args:=#[x,y],argTypes:=#[t,t] },ty,pos,af,gd⟩::l) ⟨fl,nt⟩ ⟨B,π,k,hl⟩ K:=by
 have h1:=hz.eq
 have hsz:=hs.eq
 have hby:=hb.eq
 cases hi:P.info? e with
 | none=>rw [hi] at h1;cases h1
 | some ti =>
  rw [hi] at h1 hsz hby
  have h2:ti.zero=some z:=h1
  have h3:ti.size=sz:=by simpa using hsz
  have h4:ti.bytes=by':=by simpa using hby
  subst h3;subst h4
  have hzf:=freeB_bnd hz.fr
  have hl1:(cellsV z).length=ti.size:=Nat.eq_of_beq_eq_true hl0
  have heff:∀ {id:Nat},effR B.n π (recGE k j i) id=true→(id < B.n∧id=j)∨(¬ id < B.n∧id=π k):=by
   intro id he
   unfold effR recGE at he
   by_cases h0:id < B.n
   ·simp [h0] at he;exact .inl ⟨h0,he⟩
   ·simp only [h0,if_false] at he
    cases hx:idx π (k+1) id with
    | none=>rw [hx] at he;cases he
    | some q =>
     rw [hx] at he
     obtain ⟨g1,g2⟩:=idx_some hx
     simp only [Bool.or_eq_true,memL,Bool.false_eq_true,false_or,decide_eq_true_eq] at he
     have:q=k:=by omega
     subst this;exact .inr ⟨h0,g2.symm⟩
  let h:SH:=⟨B,π,k,hl⟩
  let b':Blk:=⟨⟨cs++takeV off (n * ti.size) ds⟩,e⟩
  let h':SH:=⟨B.kill j,π,k+1,(k,some b')::hl⟩
  have hwk:h.WF→(⟨B.kill j,π,k,hl⟩:SH).WF:=fun w=>⟨w.up,w.lo,w.hi,w.inj,w.bn,fun id b hb=>by
   have hb:(if id=j then none else B.m id)=some b:=hb
   split at hb
   ·cases hb
   ·exact w.bd id b hb,w.bo⟩
  have hden:h.WF→h'.den=(h.den.kill j).push b':=by
   intro w
   have h5:(⟨B.kill j,π,k,hl⟩:SH).den=h.den.kill j:=(SH.kill_base (h:=h) w hjn).symm
   rw [← h5]
   exact (SH.push_den (hwk w) b').symm
  have hm:∀ id,((h.den.kill j).push b').m id=if id=π k then some b' else if id=j then none else h.den.m id:=fun id=>rfl
  have hjk:h.WF→j≠π k:=fun w e=>by have:=w.bn;simp only [h] at this;omega
  have hinj:h.WF→∀ a b,a < k+1→b < k+1→π a=π b→a=b:=fun w=>(w.push []).inj
  have hv1:h.WF→hidR B.n π (recGE k j i) (π k)=false:=by
   intro w
   have hb0:¬ π k < B.n:=Nat.not_lt.2 w.bn
   simp only [hidR,recGE,if_neg hb0,idx_at (hinj w) (Nat.lt_succ_self _)]
   simp
  have hv2:hidR B.n π (recGE k j i) j=false:=by simp [hidR,recGE,hjn]
  refine RS.step hw hd (h':=h') (r:=recGE k j i) (v:=.slice (some ⟨π k,0,none⟩) (len+n) (capOf ti.size)) ⟨fun w a g=>?_,fun w=>(hwk w).push _,rfl,rfl,rfl,rfl,Nat.le_succ _,fun w id he=>?_,fun w id he=>?_,fun w id hid hnn=>?_,?_,fun w id c he hc u hu=>trivial⟩ hk
  ·show TX P _ a.eval (h.den.hide (hidR B.n π (recGE k j i))) _ (h'.den.hide (hidR B.n π (recGE k j i)))
   rw [hden w]
   have e1:((h.den.kill j).push b').hide (hidR B.n π (recGE k j i))=((h.den.hide (hidR B.n π (recGE k j i))).kill j).push b':=by
    refine Hp.eq (fun id=>?_) rfl
    show (if hidR B.n π (recGE k j i) id=true then none else if id=π k then some b' else if id=j then none else h.den.m id)=(if id=π k then some b' else if id=j then none else if hidR B.n π (recGE k j i) id=true then none else h.den.m id)
    by_cases e:id=π k
    ·rw [if_pos e,if_pos e,e,hv1 w];rfl
    ·rw [if_neg e,if_neg e]
     by_cases e2:id=j
     ·rw [if_pos e2,if_pos e2];split<;>rfl
     ·rw [if_neg e2,if_neg e2]
   rw [e1]
   have hmb:∀ {q:Nat} {bq:Blk},B.m q=some bq→q < B.n→(h.den.hide (hidR B.n π (recGE k j i))).m q=some bq:=by
    intro q bq hq hqn
    have:hidR B.n π (recGE k j i) q=false:=by simp [hidR,recGE,hqn]
    simp only [Hp.hide,this]
    exact SH.m_base w hq
   have hik':i < k:=blt_iff.1 hik
   have hml:h.WF→(h.den.hide (hidR B.n π (recGE k j i))).m (π i)=some ⟨⟨ds⟩,e2⟩:=fun w=>by
    have hb1:¬ π i < B.n:=Nat.not_lt.2 (w.lo i hik')
    have:hidR B.n π (recGE k j i) (π i)=false:=by
     simp only [hidR,recGE,if_neg hb1,idx_at (hinj w) (Nat.lt_succ_of_lt hik')]
     simp [memL]
    simp only [Hp.hide,this]
    exact (SH.m_loc w hik').trans hbi
   have hsrc:srcCells (h.den.hide (hidR B.n π (recGE k j i))) ti.size n (a.eval y)=some ⟨takeV off (n * ti.size) ds⟩:=by
    rw [g.ev hy]
    simp only [srcCells,hml w]
    rw [if_pos ⟨trivial,by simpa using hn⟩]
    congr 1
    apply Array.ext'
    rw [takeV_eq];simp [List.extract_eq_take_drop]
   have hlen:(takeV off (n * ti.size) ds).length=n * ti.size:=by rw [takeV_eq];simp;omega
   have:=TX.appendGrow (P:=P) (o:=⟨some d,.call { callee:=.builtin .append,args:=#[x,y],argTypes:=#[t,t] },ty,pos,af,gd⟩) (ev:=a.eval) (h:=h.den.hide (hidR B.n π (recGE k j i))) (i:=j) (len:=len) (n:=n) (b:=⟨⟨cs⟩,e⟩) (new:=⟨takeV off (n * ti.size) ds⟩) rfl hu.eq hu.eq rfl hi h2 hzf hu.ltE (by rw [cellsV_eq];exact hl1) (blt_iff.1 hp0) (g.ev hx) hjr (hmb hbj hjn) rfl (by simpa using hcs) (by rw [g.ev hy];rfl) hsrc (by simpa using hlen) (by simpa using hone) h63 hbig
   rw [List.append_toArray] at this
   exact this
  ·show h'.den.m id=h.den.m id
   rw [hden w,hm]
   by_cases e:id=π k
   ·exfalso
    have:effR B.n π (recGE k j i) id=true:=by
     subst e
     have hb0:¬ π k < B.n:=Nat.not_lt.2 w.bn
     simp only [effR,recGE,if_neg hb0,idx_at (hinj w) (Nat.lt_succ_self _)]
     simp
    have he:effR B.n π (recGE k j i) id=false:=he
    rw [this] at he;cases he
   ·rw [if_neg e]
    by_cases e2:id=j
    ·exfalso
     have:effR B.n π (recGE k j i) id=true:=by
      subst e2
      simp [effR,recGE,hjn]
     have he:effR B.n π (recGE k j i) id=false:=he
     rw [this] at he;cases he
    ·rw [if_neg e2]
  ·rcases heff he with ⟨_,e⟩|⟨_,e⟩
   ·subst e;exact hv2
   ·subst e;exact hv1 w
  ·show h'.den.m id=none
   rw [hden w,hm]
   have hid:id < π k:=hid
   have hnn:h.den.m id=none:=hnn
   rw [if_neg (by omega)]
   split
   ·rfl
   ·exact hnn
  ·show ment _ _
   rw [ment];exact .inr ⟨k,by simp,rfl⟩
end
end Go.AH
namespace Go.AH
variable {P:Program}
def Hp.back (h h1:Hp) (s:Nat→Bool):Hp:=⟨fun i=>if s i then h.m i else h1.m i,h1.n⟩
theorem back_hid {h h1:Hp} {s:Nat→Bool} {i:Nat} (hs:s i=true):(h.back h1 s).m i=h.m i:=by
 show (if s i then _ else _)=_
 rw [if_pos hs]
theorem back_not {h h1:Hp} {s:Nat→Bool} {i:Nat} (hs:s i=false):(h.back h1 s).m i=h1.m i:=by
 show (if s i then _ else _)=_
 rw [if_neg (by rw [hs];decide)]
theorem back_hide {h h1:Hp} {s:Nat→Bool} {i:Nat} {b:Blk} (hb:((h.back h1 s).hide s).m i=some b):h1.m i=some b:=by
 obtain ⟨h2,h3⟩:=hide_some.1 hb
 rw [back_not h2] at h3;exact h3
theorem TF.frame {g:FuncId} {args:Array Value} {h h1:Hp} {v:Value} (s:Nat→Bool) (ht:TF P g args (h.hide s) v h1):TF P g args h v (h.back h1 s):=by
 intro ha ρ W hok
 refine (ht ha ρ W (hok.hide s)).mono ?_
 rintro e W' ⟨ρ',rfl,hv,hok',hE⟩
 have hok2:HOK P.globals.size ((h.back h1 s).hide s) ρ' W':=⟨fun i b hb=>hok'.fits i b (back_hide hb),fun i b hb=>hok'.lt i b (back_hide hb),fun i j b c hi hb hc=>hok'.inj i j b c hi (back_hide hb) (back_hide hc),fun i b hb=>hok'.bd i b (back_hide hb),hok'.glob,hok'.gle,hok'.gow⟩
 have hE2:Ext (h.hide s) ((h.back h1 s).hide s) ρ ρ' W W':=⟨hE.agree,hE.mono,hE.kept,hE.size,fun i b hi hb=>hE.own i b hi (back_hide hb),hE.tape,hE.os,hE.output,fun i b hi hb=>hE.surv i b hi (back_hide hb)⟩
 obtain ⟨k1,k2⟩:=hok.unhide hok2 hE2 fun i hi=>back_hid hi
 exact ⟨ρ',rfl,hv,k1,k2⟩
theorem TF.old {g:FuncId} {args:List Value} {h h1:Hp} {v:Value} (ht:TF P g ⟨args⟩ h v h1) (s:Sat P h) (hb:∀ v∈args,bnd h.n v):h.n≤h1.n∧Sat P h1∧∀ i b',i < h.n→h1.m i=some b'→∃ b,h.m i=some b:=by
 obtain ⟨ρ,W,hok⟩:=s
 obtain ⟨e,W',_,⟨ρ',_,_,hok',hE⟩,_⟩:=ht (fun x hx=>hb x (by simpa using hx)) ρ W hok []
 exact ⟨hE.mono,⟨ρ',W',hok'⟩,fun i b' hi hb'=>by obtain ⟨b,h2,_⟩:=hE.surv i b' hi hb';exact ⟨b,h2⟩⟩
theorem EX.frame {g:FuncId} {args:List Value} {h:Hp} {Q:Value→Hp→Prop} (s:Nat→Bool) (hs:∀ i,s i=true→i < h.n) (he:EX P g args (h.hide s) Q):EX P g args h (fun v h'=>∃ h1,Q v h1∧h'=h.back h1 s∧h.n≤h1.n∧∀ i c,h1.m i=some c→h'.m i=some c):=by
 rintro ⟨ρ,W,hok⟩ hb
 have st:Sat P (h.hide s):=⟨ρ,W,hok.hide s⟩
 obtain ⟨v,h1,ht,hq⟩:=he st hb
 obtain ⟨o1,_,o2⟩:=ht.old st hb
 refine ⟨v,_,ht.frame s,h1,hq,rfl,o1,fun i c hc=>?_⟩
 cases hsi:s i with
 | false=>rw [back_not hsi];exact hc
 | true =>
  obtain ⟨b,hb⟩:=o2 i c (hs i hsi) hc
  rw [(hide_some.1 hb).1] at hsi;cases hsi
end Go.AH
namespace Go.AH
variable {P:Program}
theorem pairR_calm {x y:Rk} (xw:x.wb=false) (xe:x.eb=none) (yw:y.wb=false) (ye:y.eb=none) (yvl:y.vl=[]) (yk:y.k=y.k') (yww:y.w=[]) (hk:x.k'≤y.k) (hv:∀ j∈x.vl,j < y.k) (hn:x.k=x.k'∨(y.nv=some []∧y.cn=some [])):pairR x y=true:=by
 have hb:Nat.beq y.k y.k'=true:=by rw [yk];simp
 have c1:crossB x y=true:=by
  unfold crossB
  rw [xw,xe,yvl,hb]
  simp [noneB]
 have c2:crossB y x=true:=by
  have hall:(x.vl.all fun j=>!memL j y.w && (Nat.blt j y.k || Nat.ble y.k' j))=true:=by
   rw [List.all_eq_true]
   intro j hj
   rw [yww]
   have:=blt_iff.2 (hv j hj)
   simp [memL,this]
  unfold crossB
  rw [hall,yw,ye,yww,hb]
  simp [noneB]
 have c3:(Nat.beq x.k x.k' || (outO x y.nv && outO x y.cn))=true:=by
  rcases hn with e|⟨e1,e2⟩
  ·rw [e];simp
  ·rw [e1,e2];simp [outO]
 unfold pairR
 rw [c1,c2,ble_iff.2 hk,c3];rfl
section
variable {ops:Array Oper} {draw:Bool} {rs:List Rk} {l:List Oper} {fl:List (Nat × Value)} {nt:Nat} {B:Hp} {π:Nat→Nat} {k:Nat} {hl:List (Nat × Option Blk)} {K:Fr→SH→Prop} {d:Tmp} {ty:TypeId} {pos:String} {af:Array Edge} {gd:Option (Nat × Bool)}
theorem RS.neqSame [Pend] {h:SH} {t yt:TypeId} {x y:Operand} {a b:ByteArray} (hw:wantB ops ⟨some d,.binOp .neq t x y yt,ty,pos,af,gd⟩ ⟨fl,nt⟩=some true) (hd:Nat.blt d nt=true)
 (hx:Fr.ev ⟨fl,nt⟩ x=some (.string a)) (hy:Fr.ev ⟨fl,nt⟩ y=some (.string b)) (he:a=b)
 (hk:RS P ops draw (recP h.k false [] (some [])::rs) l ⟨(d,.bool false)::fl,nt⟩ h K):RS P ops draw rs (⟨some d,.binOp .neq t x y yt,ty,pos,af,gd⟩::l) ⟨fl,nt⟩ h K:=by
 refine RS.binStr hw hd hx hy (v:=.bool false) ?_ hk
 subst he
 simp [binS]
end
theorem RS.moveF [Pend] {P:Program} {ops:Array Oper} {draw:Bool} {rs:List Rk} {l:List Oper} {fl:List (Nat × Value)} {nt:Nat} {d:Tmp} {ty:TypeId} {pos:String} {af:Array Edge} {gd:Option (Nat × Bool)} {h:SH} {K:Fr→SH→Prop} {x:Operand} {k:IntKind} {n:Int} (hw:wantB ops ⟨some d,.move x,ty,pos,af,gd⟩ ⟨fl,nt⟩=some true) (hd:Nat.blt d nt=true) (hx:Fr.ev ⟨fl,nt⟩ x=some (.int k n))
 (hk:RS P ops draw (recP h.k false [] (some [])::rs) l ⟨(d,.int k n)::fl,nt⟩ h K):RS P ops draw rs (⟨some d,.move x,ty,pos,af,gd⟩::l) ⟨fl,nt⟩ h K :=
 RS.free hw hd (fun a g H=>by
  have:=TX.move (P:=P) (o:=⟨some d,.move x,ty,pos,af,gd⟩) (ev:=a.eval) (h:=H) rfl
  rw [g.ev hx] at this;exact this) (by simp) hk
end Go.AH
namespace Go.AH
variable {P:Program} {H:Type} {enc:TypeId × Value→H} {G:Nat} {g0:Nat→Option Blk} {W:World}
def okW (l:List Nat):Prop:=∀ n∈l,n≤reachBytes
def TW (enc:TypeId × Value→H) (P:Program) (W:World) (t:TypeId) (cs:List Value):Prop :=
 ∃ fuel x,DataW.trod enc P W 0 (fun _=>true) true fuel t cs=some x∧okW (x.1.weights P t)
theorem TW.int {t:TypeId} {k:IntKind} {cs:List Value} (ht:P.underlying t=some (.int k)) (h:TW enc P W t cs):∃ n,cs=[.int k n]∧k.min≤n∧n≤k.max:=by
 obtain ⟨fuel,x,h,_⟩:=h
 cases fuel with
 | zero=>simp [DataW.trod] at h
 | succ fuel =>
  unfold DataW.trod at h
  rw [ht] at h
  split at h<;>first|cases h|skip
  all_goals simp_all
  obtain ⟨⟨h1,h2⟩,_⟩:=h
  subst h1
  simp [Lit.wf] at h2
  exact h2
theorem weightsAll_mem {e:TypeId}:∀ {l:List (DataW H)} {d:DataW H},d∈l→okW (DataW.weightsAll P e l)→okW (d.weights P e):=by
 intro l
 induction l with
 | nil=>intro d h;cases h
 | cons a l ih =>
  intro d h hw
  rw [DataW.weightsAll] at hw
  rcases List.mem_cons.1 h with rfl|h
  ·exact fun n hn=>hw n (List.mem_append_left _ hn)
  ·exact ih h fun n hn=>hw n (List.mem_append_right _ hn)
theorem TW.slice {t e:TypeId} {cs:List Value} (ht:P.underlying t=some (.slice e)) (hb:1≤P.bytesOf e) (hw0:0 < P.cellsOf e) (h:TW enc P W t cs) :
 cs=[.slice none 0 0]∨∃ (a:Addr) (len cap:Nat) (css:List (List Value)),cs=[.slice (some a) len cap]∧len≤cap∧cap≤reachBytes∧css.length=len∧(css≠[]→a.spot=none)∧∀ i c,css[i]?=some c→W.cells? 0 (a.add (i * P.cellsOf e)) (P.cellsOf e)=some c∧TW enc P W e c:=by
 obtain ⟨fuel,x,h,hw⟩:=h
 rcases Go.Deep.open_slice ht h with ⟨h0,_⟩|⟨a,len,cap,m,n,Dd,Pl,h1,_,h3,h4,h5,h6,h7⟩
 ·exact .inl h0
 ·right
  simp only [if_true] at h5
  subst h5
  subst h6
  simp only [DataW.weights,ht] at hw
  have hcap:m≤reachBytes:=by
   have:=hw _ (List.mem_cons_self ..)
   simp only [List.length_map,List.length_range] at this
   have h8:len+(m - len)=m:=by omega
   rw [h8] at this
   exact Nat.le_trans (Nat.le_mul_of_pos_right _ hb) this
  have hex:∀ i,i < len→∃ c,W.cells? 0 (a.add (i * P.cellsOf e)) (P.cellsOf e)=some c∧TW enc P W e c:=by
   intro i hi
   obtain ⟨c,q1,q2⟩:=h7 i (by omega)
   refine ⟨c,q1,n,_,q2,?_⟩
   refine weightsAll_mem (l:=(List.range len).map Dd) (List.mem_map.2 ⟨i,List.mem_range.2 hi,rfl⟩) fun n hn=>hw n ?_
   exact List.mem_cons_of_mem _ (List.mem_append_left _ hn)
  have build:∀ k,k≤len→∃ css:List (List Value),css.length=k∧∀ i c,css[i]?=some c→W.cells? 0 (a.add (i * P.cellsOf e)) (P.cellsOf e)=some c∧TW enc P W e c:=by
   intro k
   induction k with
   | zero=>intro _;exact ⟨[],rfl,fun i c h=>by simp at h⟩
   | succ k ih =>
    intro hk
    obtain ⟨css,q1,q2⟩:=ih (by omega)
    obtain ⟨c,q3⟩:=hex k (by omega)
    refine ⟨css++[c],by simp [q1],fun i c' h=>?_⟩
    by_cases hi:i < css.length
    ·rw [List.getElem?_append_left hi] at h;exact q2 i c' h
    ·rw [List.getElem?_append_right (by omega)] at h
     cases hd:i - css.length with
     | zero =>
      rw [hd] at h;simp at h
      have:i=k:=by omega
      subst this;subst h;exact q3
     | succ j=>rw [hd] at h;simp at h
  obtain ⟨css,q1,q2⟩:=build len (Nat.le_refl _)
  refine ⟨a,len,m,css,h1,h3,hcap,q1,fun hne=>?_,q2⟩
  cases css with
  | nil=>exact absurd rfl hne
  | cons c css =>
   have h8:=(q2 0 c rfl).1
   have h9:=cells_get h8
   have h10:0 < c.length:=by rw [h9.1];exact hw0
   have h11:=h9.2 0 _ (List.getElem?_eq_getElem h10)
   unfold World.cell? at h11
   have:(a.add (0 * P.cellsOf e)).add 0=a:=by simp [Addr.add]
   rw [this] at h11
   split at h11
   ·cases hs:a.spot with
    | none=>rfl
    | some s=>rw [hs] at h11;simp at h11
   ·cases h11
def fieldsOf (P:Program) (t:TypeId):Option (List (TypeId × Nat × Nat)):=match P.underlying t with
 | some (.struct fs)=>some (fs.toList.map fun f=>(f.type,f.offset,P.cellsOf f.type))
 | _=>none
theorem D.int {t:TypeId} {k:IntKind} {cs:List Value} (ht:P.underlying t=some (.int k)) (h:TW enc P W t cs):D G g0 W cs 0 (fun _ acs=>∃ n,acs=[.int k n]∧k.min≤n∧n≤k.max):=by
 obtain ⟨n,rfl,h1,h2⟩:=h.int ht
 exact (D.free (by simp)).mono (Nat.le_refl _) fun H acs _ e=>⟨n,e,h1,h2⟩
theorem D.row {t e:TypeId} {w N:Nat} {Φ:Hp→List Value→Prop} {cs:List Value} (u:UpΦ Φ) (ht:P.underlying t=some (.slice e)) (hw:P.cellsOf e=w) (hw0:0 < w) (hb:1≤P.bytesOf e) (he:∀ c,TW enc P W e c→D G g0 W c N Φ) (h:TW enc P W t cs):D G g0 W cs (reachBytes * N+1) (RowΦ w reachBytes Φ):=by
 subst hw
 rcases h.slice ht hb hw0 with rfl|⟨a,len,cap,css,rfl,h1,h2,h3,h4,h5⟩
 ·exact D.sliceNil.mono (Nat.zero_le _) fun _ _ _ h=>h
 ·refine (D.slice u hw0 h3 (fun c hc=>?_) (fun i c hc=>(h5 i c hc).1) h1 (Nat.lt_of_le_of_lt h2 (by decide)) (Nat.le_trans h1 h2) h4).mono (Nat.succ_le_succ (Nat.mul_le_mul_right _ (Nat.le_trans h1 h2))) fun _ _ _ h=>h
  obtain ⟨i,hi⟩:=List.mem_iff_getElem?.1 hc
  exact he c (h5 i c hi).2
def SegD (G:Nat) (g0:Nat→Option Blk) (W:World) (cs:List Value):Nat→List (Nat × Nat × (Hp→List Value→Prop))→Prop
 | off,[]=>cs.length=off
 | off,(w,N,Φ)::l=>UpΦ Φ∧D G g0 W ((cs.drop off).take w) N Φ∧SegD G g0 W cs (off+w) l
def SegΦ:List (Nat × Nat × (Hp→List Value→Prop))→Hp→List Value→Prop
 | [],_,acs=>acs=[]
 | (_,_,Φ)::l,H,acs=>∃ a1 a2,acs=a1++a2∧Φ H a1∧SegΦ l H a2
def segN:List (Nat × Nat × (Hp→List Value→Prop))→Nat
 | []=>0
 | (_,N,_)::l=>N+segN l
end Go.AH
