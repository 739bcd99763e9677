/-
  Walking through code with a list of known values and blocks;it holds of any program whose types are as told.
-/
import Derived.Below
import Derived.Defers
import Derived.Handed
import Derived.Laws.Small
import Derived.Test.YtgpigfcagppohaaGreatDoorA1
import Derived.Test.YtgpigfcagppohaaGreatDoorS1
import GoSem.ClaimChange
set_option linter.unusedVariables false
set_option linter.unusedSimpArgs false
namespace Go.AH
variable {P:Program}
def TE (P:Program) (g:FuncId) (B:Hp) (k0:Nat) (kp:List Nat) (args:(Nat→Nat)→List Value) (L:(Nat→Nat)→List (Nat × Option Blk)) (v:Value) (L':(Nat→Nat)→List (Nat × Option Blk)):Prop :=
 ∀ π,(⟨B,π,k0,L π⟩:SH).WF→∃ π',(⟨B,π',k0,L' π'⟩:SH).WF∧π k0≤π' k0∧(∀ i,i < k0→(i∈kp∧π' i=π i∧∃ b,lookB (L π) i=some b)∨(¬ i∈kp∧π k0≤π' i))∧TF P g ⟨args π⟩ (⟨B,π,k0,L π⟩:SH).den v (⟨B,π',k0,L' π'⟩:SH).den
def piE (π π':Nat→Nat) (k:Nat) (m:List Nat) (i:Nat):Nat:=if i < k then (match idx (fun j=>(nthL m j).getD 0) m.length i with|some j=>π' j|none=>π i) else π' m.length+(i - k)
def hidE (n0:Nat) (π:Nat→Nat) (k:Nat) (m:List Nat) (id:Nat):Bool:=if id < n0 then false else match idx π k id with|some a=>!memL a m|none=>false
section
variable {π π':Nat→Nat} {k:Nat} {m:List Nat}
end
section
variable {B:Hp} {π π':Nat→Nat} {k:Nat} {hl L L':List (Nat × Option Blk)} {m kp:List Nat} (w:(⟨B,π,k,hl⟩:SH).WF) (hm:okM m k=true) (hL:∀ i a,nthL m i=some a→lookB L i=lookB hl a)
include w hm
variable (w':(⟨B,π',m.length,L'⟩:SH).WF) (hle:π k≤π' m.length) (hn:∀ i a,nthL m i=some a→π' i=π a∨π k≤π' i)
include w' hle hn
end
section
variable {ops:Array Oper} {rs:List Rk} {l:List Oper} {fl:List (Nat × Value)} {nt:Nat} {B:Hp} {π:Nat→Nat} {k:Nat} {hl:List (Nat × Option Blk)} {K:Fr→SH→Prop} {d:Tmp} {ty:TypeId} {pos:String} {af:Array Edge} {gd:Option (Nat × Bool)}
end
def EqK (f g:Nat→Nat):List Nat→Prop
 | []=>True
 | i::l=>f i=g i∧EqK f g l
def HasK (L:List (Nat × Option Blk)):List Nat→Prop
 | []=>True
 | i::l=>(∃ b,lookB L i=some b)∧HasK L l
def AtE (B:Hp) (π:Nat→Nat) (k0:Nat) (kp:List Nat) (L':(Nat→Nat)→List (Nat × Option Blk)) (v:Value) (vs:List Value) (h':SH):Prop :=
 ∃ m:List Nat,m.length=k0∧okM m h'.k=true∧h'.base=B∧EqK (reX h'.π h'.k m) π kp∧MatchL (L' (reX h'.π h'.k m)) h'.l m 0∧resultOf vs=v
def piK (π:Nat→Nat) (k0:Nat) (kp:List Nat) (N:Nat) (i:Nat):Nat:=if memL i kp=true∧i < k0 then π i else N+i
end Go.AH
namespace Go.AH
variable {P:Program}
def rowC {α:Type} (w:α→List Value):List α→List Value
 | []=>[]
 | a::l=>rowC w l++w a
def rowBk {α:Type} (w:α→List Value) (e:TypeId):List α→Option Blk
 | []=>none
 | a::l=>some ⟨⟨rowC w l++w a⟩,e⟩
def rowVl {α:Type} (sz a:Nat):List α→Value
 | []=>.slice none 0 0
 | _::l=>.slice (some ⟨a,0,none⟩) (l.length+1) (capOf sz)
section
variable {ops:Array Oper} {draw:Bool} {rs:List Rk} {l:List Oper} {fl:List (Nat × Value)} {nt:Nat} {B:Hp} {π:Nat→Nat} {k:Nat} {hl:List (Nat × Option Blk)} {K:Fr→SH→Prop} {d:Tmp} {ty:TypeId} {pos:String} {af:Array Edge} {gd:Option (Nat × Bool)}
end
end Go.AH
namespace Go.AH
variable {P:Program}
section
variable {ops:Array Oper} {draw:Bool} {rs:List Rk} {l:List Oper} {fl:List (Nat × Value)} {nt:Nat} {h:SH} {K:Fr→SH→Prop} {d:Tmp} {ty:TypeId} {pos:String} {af:Array Edge} {gd:Option (Nat × Bool)}
end
end Go.AH
namespace Go.AH
variable {P:Program}
section
variable {ops:Array Oper} {draw:Bool} {rs:List Rk} {l:List Oper} {fl:List (Nat × Value)} {nt:Nat} {h:SH} {K:Fr→SH→Prop} {d:Tmp} {ty:TypeId} {pos:String} {af:Array Edge} {gd:Option (Nat × Bool)}
end
def keptB (m kp:List Nat) (i:Nat):Bool:=match m with
 | []=>true
 | a::m=>go (a::m) 0
where go:List Nat→Nat→Bool
 | [],_=>true
 | a::m,j=>(!Nat.beq a i || memL j kp) && go m (j+1)
end Go.AH
namespace Go.AH
variable {P:Program}
section
variable {ops:Array Oper} {draw:Bool} {rs:List Rk} {l:List Oper} {fl:List (Nat × Value)} {nt:Nat} {B:Hp} {π:Nat→Nat} {k:Nat} {hl:List (Nat × Option Blk)} {K:Fr→SH→Prop} {d:Tmp} {ty:TypeId} {pos:String} {af:Array Edge} {gd:Option (Nat × Bool)}
end
end Go.AH
namespace Go.AH
variable {P:Program}
section
variable {ops:Array Oper} {draw:Bool} {rs:List Rk} {l:List Oper} {fl:List (Nat × Value)} {nt:Nat} {h:SH} {K:Fr→SH→Prop} {d:Tmp} {ty:TypeId} {pos:String} {af:Array Edge} {gd:Option (Nat × Bool)}
theorem RS.sliceNil [Pend] {t e:TypeId} {x:Operand} {lo hi:Option Operand} {sz:Nat} [hu:TyU P t (.slice e)] [hs:TySz P e sz] (hw:wantB ops ⟨some d,.slice t x lo hi none,ty,pos,af,gd⟩ ⟨fl,nt⟩=some true) (hd:Nat.blt d nt=true) (hx:Fr.ev ⟨fl,nt⟩ x=some (.slice none 0 0)) (hlo:bndS fl nt lo 0 0) (hhi:bndS fl nt hi 0 0)
 (hk:RS P ops draw (recP h.k false [] (some [])::rs) l ⟨(d,.slice none 0 0)::fl,nt⟩ h K):RS P ops draw rs (⟨some d,.slice t x lo hi none,ty,pos,af,gd⟩::l) ⟨fl,nt⟩ h K:=by
 have hsz:=hs.eq
 cases hin:P.info? e with
 | none=>rw [hin] at hsz;cases hsz
 | some ti =>
  exact RS.free hw hd (fun a g H=>TX.sliceNil (P:=P) (o:=⟨some d,.slice t x lo hi none,ty,pos,af,gd⟩) rfl hu.eq hin (g.ev hx) (bndS_ok g hlo) (bndS_ok g hhi)) (by simp) hk
end
end Go.AH
namespace Go.AH
variable {P:Program}
section
variable {ops:Array Oper} {draw:Bool} {rs:List Rk} {l:List Oper} {fl:List (Nat × Value)} {nt:Nat} {B:Hp} {π:Nat→Nat} {k:Nat} {hl:List (Nat × Option Blk)} {K:Fr→SH→Prop} {d:Tmp} {ty:TypeId} {pos:String} {af:Array Edge} {gd:Option (Nat × Bool)}
theorem RS.makeSliceF [Pend] {t e:TypeId} {x y:Operand} {n sz by':Nat} {kx ky:IntKind} {z:Value} {cs:List Value} [hu:TyU P t (.slice e)] [hs:TySz P e sz] [hb:TyBy P e by'] [hz:TyZ P e z] (hw:wantB ops ⟨some d,.makeSlice t x y,ty,pos,af,gd⟩ ⟨fl,nt⟩=some true) (hd:Nat.blt d nt=true)
 (hx:Fr.ev ⟨fl,nt⟩ x=some (.int kx (n:Int))) (hy:Fr.ev ⟨fl,nt⟩ y=some (.int ky (n:Int))) (hl0:Nat.beq (cellsV z).length sz=true) (hp0:Nat.blt 0 sz=true) (hbig:n≤9223372036854775807∧by' * n≤281474976710656) (hc:repL (cellsV z) n=cs) (hfree:∀ u∈cs,bnd 0 u)
 (hk:RS P ops draw (recN k false [] (some [k]) (some [])::rs) l ⟨(d,.slice (some ⟨π k,0,none⟩) n n)::fl,nt⟩ ⟨B,π,k+1,(k,some ⟨⟨cs⟩,e⟩)::hl⟩ K):RS P ops draw rs (⟨some d,.makeSlice t x y,ty,pos,af,gd⟩::l) ⟨fl,nt⟩ ⟨B,π,k,hl⟩ K:=by
 have h1:=hz.eq
 have hsz:=hs.eq
 have hby:=hb.eq
 cases hi:P.info? e with
 | none=>rw [hi] at h1;cases h1
 | some ti =>
  rw [hi] at h1 hsz hby
  have h2:ti.zero=some z:=h1
  have h3:ti.size=sz:=by simpa using hsz
  have h4:ti.bytes=by':=by simpa using hby
  subst h3;subst h4
  have hzf:=freeB_bnd hz.fr
  have hl1:(cellsV z).length=ti.size:=Nat.eq_of_beq_eq_true hl0
  have hp1:=blt_iff.1 hp0
  refine RS.step hw hd (One.new (h:=⟨B,π,k,hl⟩) (b:=⟨⟨cs⟩,e⟩) (cn:=some []) (fun a g H hs=>?_) ?_ fun u hu=>Nm_free (hfree u (by simpa using hu))) hk
  ·have:=TX.makeSlice (P:=P) (o:=⟨some d,.makeSlice t x y,ty,pos,af,gd⟩) (ev:=a.eval) (h:=H) (l:=n) (c:=n) rfl hu.eq hi h2 hzf hu.ltE (g.ev hx) (g.ev hy) (Nat.le_refl _) hbig.1 (by simpa using hbig.2)
   rw [hs.n,cellsV_eq,← hl1,zeros_rep (by omega),hc] at this;exact this
  ·show ment _ _
   rw [ment];exact .inr ⟨k,by simp,rfl⟩
end
end Go.AH
namespace Go.AH
open Go.RowKit
variable {P:Program}
theorem Ext.below {h h':Hp} {ρ ρ':Env} {W W':World} {G:Nat} (hok:HOK G h ρ W) (hok':HOK G h' ρ' W') (hE:Ext h h' ρ ρ' W W') (hkeep:∀ i b,h.m i=some b→h'.m i=some b):Below W.heap.size W W':=by
 refine ⟨hE.os,hE.tape,hE.output,hE.size,fun k hk=>?_⟩
 by_cases hx:∃ i b,rwM≤i∧h.m i=some b∧ρ.loc i=k
 ·obtain ⟨i,b,hi0,hb,rfl⟩:=hx
  have hin:=hok.lt i b hb
  obtain ⟨c,hc,_,hal⟩:=hE.surv i b hin (hkeep i b hb)
  by_cases hcm:b.elem < mapM
  case neg =>
   rcases hok.fits i b hb with ⟨_,_,_,_,_,hw⟩|⟨m,he,_,h2,_⟩
   ·exact absurd (hw hi0).2.2.2.2 hcm
   ·have:=(hok'.fits i b (hkeep i b hb))
    obtain ⟨cs,el⟩:=b
    simp only at h2
    subst h2
    have h3:=(this.map hi0).1
    rw [(hE.agree i hin).1] at h3
    rw [he,h3]
  rcases hal with e|⟨d,d',t,fr,e1,e2,e3,e4⟩|⟨es,es',cl,cl',e1,e2⟩
  ·exact e
  ·obtain ⟨tail,fr1,g1,g2,_⟩:=(hok.fits i b hb).own hi0 (.inr hcm)
   obtain ⟨tail',fr1',k1,k2,_⟩:=(hok'.fits i b (hkeep i b hb)).own hi0 (.inr hcm)
   rw [(hE.agree i hin).1] at k1
   rw [g1] at e1
   rw [k1] at e2
   injection e1 with e1
   injection e1 with a1 a2 a3
   injection e2 with e2
   injection e2 with b1 b2 b3
   rw [g1,k1]
   congr 2
   ·rw [a1,b1]
    apply Array.ext'
    apply List.ext_getElem?
    intro j
    rw [Array.getElem?_toList,Array.getElem?_toList]
    by_cases hj:b.cells.size≤j
    ·exact e4 j hj
    ·have hj':j < b.cells.size:=by omega
     rw [← a1,← b1,Array.getElem?_append_left (by simpa using hj'),Array.getElem?_append_left (by simpa using hj')]
     rw [Array.map_congr_left fun v hv=>ren_agree hE.agree v (hok.bd i b hb v hv)]
   ·rw [a3,b3]
  ·obtain ⟨tail,fr1,g1,_⟩:=(hok.fits i b hb).own hi0 (.inr hcm)
   rw [g1] at e1;cases e1
 ·exact hE.kept k hk fun i b hi0 hb e=>hx ⟨i,b,hi0,hb,e⟩
theorem TF.below {f:FuncId} {args:Array Value} {h h':Hp} {v:Value} (ht:TF P f args h v h') (hkeep:∀ i b,h.m i=some b→h'.m i=some b) (ha:∀ x∈args,bnd h.n x) {ρ:Env} {W:World} (hok:HOK P.globals.size h ρ W) :
 Calls P f (args.map (ren ρ)) W fun e W'=>(∃ ρ',e=.returned (ren ρ' v))∧Below W.heap.size W W':=by
 refine (ht ha ρ W hok).mono ?_
 rintro e W' ⟨ρ',rfl,_,hok',hE⟩
 exact ⟨⟨ρ',rfl⟩,hE.below hok hok' hkeep⟩
def idE (c:Nat→Nat):Env:={ loc:=fun i=>i,cap:=c,sh:=fun _=>0 }
end Go.AH
namespace Go
variable {H:Type} {enc:TypeId × Value→H}
theorem handed_and_shaped {a:Assume} {C:Checked} {os:Os} {f:FuncId} {fn:Func} {s:ChangeSpec} {conds:List PathCond} {apart fresh handsOn again:Bool} {X:World→Array Value→Prop}
 (hX:∀ (w w':World) (args:Array Value),w.heap=w'.heap→X w args→X w' args)
 (own:ownKnob C.prog.godebug=none) (started:os.Started) (noInit:C.prog.inits.idxOf? f=none) (hfn:C.prog.funcs[f]?=some fn)
 (witness:∃ (w:World) (tape:Tape) (i:Input),w.os=os∧(w.forCall tape i).Shaped C.prog∧i.vars=[]∧Input.okWide C.prog (w.forCall tape i) .any w.heap.size f i ∧
  ((s.pre enc C.prog fn conds apart (w.forCall tape i).memory i.args∧X (w.forCall tape i).memory i.args)∧sizedMet enc C.prog fn (OpenSpec.ofChange s) apart (w.forCall tape i).memory i.args)∧a.holds C.prog (lone (Frame.enter C.prog f i.args .normal) [] (w.forCall tape i)))
 (contract:∀ (W:World) (base:Nat) (args:Array Value) (ds gs:List (DataW H)) (before:List MemPlace),
  (∀ (j:Nat) t v,fn.params[j]?=some t→args[j]?=some v→Value.okWide C.prog W .any base t v) →
  DataW.Whole enc C.prog fn.params.toList s.vars apart W args.toList ds gs before →
  conds.all (PathCond.test C.prog ⟨fn.params.toList,ds,s.plain.varTypes C.prog,gs⟩)=true →
  (DataW.weightsEach C.prog (fn.params.toList++s.plain.varTypes C.prog) (ds++gs)).all (·≤reachBytes)=true→X W args→W.ShapedOpen C.prog →
  a.holds C.prog (lone (Frame.enter C.prog f args .normal) [] W) →
  Calls C.prog f args W fun e W'=>∃ v,e=.returned v∧s.post enc C.prog fn apart fresh handsOn again W args v W') :
 ReturnsInHanded a C os f .any (fun w args=>(s.pre enc C.prog fn conds apart w args∧X w args)∧sizedMet enc C.prog fn (OpenSpec.ofChange s) apart w args) (s.post enc C.prog fn apart fresh handsOn again):=by
 refine returnsInHanded_of_calls own started noInit witness ?_
 intro w tape i _ hsh _ hok hpre hholds
 obtain ⟨_,_,_,fn',hfn',_,_,_,_,hval⟩:=hok
 have e:fn'=fn:=Option.some.inj (hfn'.symm.trans hfn)
 subst e
 obtain ⟨⟨⟨ds,gs,before,hw,hc⟩,hx⟩,hz⟩:=hpre
 have hw':=DataW.Whole.of_heap (w':=w.forCall tape i) (by rfl) hw
 refine (contract (w.forCall tape i) w.heap.size i.args ds gs before hval hw' hc (hz.weights hw) (hX _ _ _ (by rfl) hx) hsh hholds).mono fun e W' ⟨v,he,hp⟩=>?_
 subst he
 exact ChangeSpec.post_blind hp
end Go
namespace Go.AH
variable {P:Program}
structure Win where
 addr:Addr
 blk:Option Blk
def envW (G:Nat) (ws:List Win):Env where
 loc i:=if i < G then i else match ws[i - G]? with|some w=>w.addr.block|none=>i
 cap _:=0
 sh i:=if i < G then 0 else match ws[i - G]? with|some w=>w.addr.off|none=>0
def hpW (G:Nat) (g0:Nat→Option Blk) (ws:List Win):Hp where
 m i:=if i < G then g0 i else (ws[i - G]?).bind (·.blk)
 n:=rwM
structure Lay (G:Nat) (W:World) (ws:List Win):Prop where
 fits:∀ (i:Nat) (w:Win) (b:Blk),ws[i]?=some w→w.blk=some b→∃ (pre tail:Array Value) (fr:Nat × Nat),W.heap[w.addr.block]?=some (.cells (pre++b.cells.map (ren (envW G ws))++tail) b.elem fr)∧pre.size=w.addr.off
 bd:∀ (i:Nat) (w:Win) (b:Blk),ws[i]?=some w→w.blk=some b→∀ v∈b.cells,bnd (G+ws.length) v
theorem envW_agree (G:Nat) (ws more:List Win):Agree (G+ws.length) (envW G ws) (envW G (ws++more)):=by
 intro i hi
 unfold envW
 by_cases h:i < G
 ·simp [h]
 ·have:(ws++more)[i - G]?=ws[i - G]?:=List.getElem?_append_left (by omega)
  simp only [h,if_false,this,and_self]
def D (G:Nat) (g0:Nat→Option Blk) (W:World) (cs:List Value) (N:Nat) (Φ:Hp→List Value→Prop):Prop :=
 ∀ ws,Lay G W ws→∃ more acs,Lay G W (ws++more)∧more.length≤N∧acs.map (ren (envW G (ws++more)))=cs∧(∀ v∈acs,bnd (G+(ws++more).length) v)∧Φ (hpW G g0 (ws++more)) acs
def UpΦ (Φ:Hp→List Value→Prop):Prop:=∀ h H acs,(∀ i b,h.m i=some b→H.m i=some b)→Φ h acs→Φ H acs
theorem hpW_up (G:Nat) (g0:Nat→Option Blk) (ws more:List Win):∀ i b,(hpW G g0 ws).m i=some b→(hpW G g0 (ws++more)).m i=some b:=by
 intro i b h
 unfold hpW at h ⊢
 simp only at h ⊢
 split at h
 ·rw [if_pos ‹_›];exact h
 ·rw [if_neg ‹_›]
  cases hw:ws[i - G]? with
  | none=>rw [hw] at h;cases h
  | some w =>
   rw [List.getElem?_append_left (List.getElem?_eq_some_iff.1 hw).1,hw]
   rw [hw] at h;exact h
variable {G:Nat} {g0:Nat→Option Blk} {W:World}
theorem D.free {cs:List Value} (h:∀ v∈cs,bnd 0 v):D G g0 W cs 0 (fun _ acs=>acs=cs):=by
 intro ws hl
 refine ⟨[],cs,by simpa using hl,Nat.le_refl _,?_,fun v hv=>bnd_mono (Nat.zero_le _) v (h v hv),rfl⟩
 exact (List.map_congr_left (g:=id) fun v hv=>ren_free _ v (h v hv)).trans (List.map_id cs)
theorem D.mono {cs:List Value} {N N':Nat} {Φ Φ':Hp→List Value→Prop} (d:D G g0 W cs N Φ) (hN:N≤N') (h:∀ H acs,acs.length=cs.length→Φ H acs→Φ' H acs):D G g0 W cs N' Φ':=by
 intro ws hl
 obtain ⟨more,acs,h1,h2,h3,h4,h5⟩:=d ws hl
 exact ⟨more,acs,h1,Nat.le_trans h2 hN,h3,h4,h _ _ (by rw [← h3,List.length_map]) h5⟩
theorem D.many {N:Nat} {Φ:Hp→List Value→Prop} (u:UpΦ Φ):∀ {css:List (List Value)},(∀ c∈css,D G g0 W c N Φ)→∀ ws,Lay G W ws →
 ∃ (more:List Win) (accs:List (List Value)),Lay G W (ws++more)∧more.length≤css.length * N∧accs.map (List.map (ren (envW G (ws++more))))=css∧(∀ a∈accs,∀ v∈a,bnd (G+(ws++more).length) v)∧∀ a∈accs,Φ (hpW G g0 (ws++more)) a:=by
 intro css
 induction css with
 | nil=>intro _ ws hl;exact ⟨[],[],by simpa using hl,by simp,rfl,(fun a ha=>by cases ha),fun a ha=>by cases ha⟩
 | cons c css ih =>
  intro hd ws hl
  obtain ⟨m1,a1,l1,n1,e1,b1,p1⟩:=hd c (by simp) ws hl
  obtain ⟨m2,as,l2,n2,e2,b2,p2⟩:=ih (fun c' hc=>hd c' (by simp [hc])) _ l1
  rw [List.append_assoc] at l2 e2 b2 p2
  refine ⟨m1++m2,a1::as,l2,by rw [List.length_append,List.length_cons,Nat.succ_mul];omega,?_,fun a ha=>?_,fun a ha=>?_⟩
  ·rw [List.map_cons,e2,← e1]
   congr 1
   refine List.map_congr_left fun v hv=>?_
   rw [← List.append_assoc]
   exact ren_agree (envW_agree G (ws++m1) m2) v (b1 v hv)
  ·rcases List.mem_cons.1 ha with rfl|ha
   ·exact fun v hv=>bnd_mono (by simp only [List.length_append];omega) v (b1 v hv)
   ·exact b2 a ha
  ·rcases List.mem_cons.1 ha with rfl|ha
   ·refine u _ _ _ ?_ p1
    rw [← List.append_assoc]
    exact hpW_up _ _ _ _
   ·exact p2 a ha
theorem Lay.snoc {ws:List Win} (hl:Lay G W ws) (w:Win) (hf:∀ b,w.blk=some b→(∃ (pre tail:Array Value) (fr:Nat × Nat),W.heap[w.addr.block]?=some (.cells (pre++b.cells.map (ren (envW G ws))++tail) b.elem fr)∧pre.size=w.addr.off)∧∀ v∈b.cells,bnd (G+ws.length) v):Lay G W (ws++[w]):=by
 have hag:=envW_agree G ws [w]
 have key:∀ b:Blk,(∀ v∈b.cells,bnd (G+ws.length) v)→b.cells.map (ren (envW G (ws++[w])))=b.cells.map (ren (envW G ws)):=fun b hb=>Array.map_congr_left fun v hv=>ren_agree hag v (hb v hv)
 have split:∀ (i:Nat) (x:Win),(ws++[w])[i]?=some x→ws[i]?=some x∨x=w:=by
  intro i x h
  by_cases hi:i < ws.length
  ·rw [List.getElem?_append_left hi] at h;exact .inl h
  ·rw [List.getElem?_append_right (by omega)] at h
   cases hk:i - ws.length with
   | zero=>rw [hk] at h;simp at h;exact .inr h.symm
   | succ k=>rw [hk] at h;simp at h
 refine ⟨fun i x b hi hb=>?_,fun i x b hi hb=>?_⟩
 ·rcases split i x hi with h|rfl
  ·rw [key b (hl.bd i x b h hb)];exact hl.fits i x b h hb
  ·rw [key b (hf b hb).2];exact (hf b hb).1
 ·intro v hv
  rw [List.length_append]
  rcases split i x hi with h|rfl
  ·exact bnd_mono (by omega) v (hl.bd i x b h hb v hv)
  ·exact bnd_mono (by omega) v ((hf b hb).2 v hv)
structure RowAt (h:Hp) (w:Nat) (accs:List (List Value)) (A:Option Addr) (Φ:Hp→List Value→Prop):Prop where
 all:∀ a∈accs,Φ h a∧a.length=w
 at_:accs≠[]→∃ b e,A=some ⟨b,0,none⟩∧h.m b=some ⟨⟨accs.flatten⟩,e⟩
def RowΦ (w M:Nat) (Φ:Hp→List Value→Prop) (H:Hp) (acs:List Value):Prop :=
 ∃ (A:Option Addr) (c:Nat) (accs:List (List Value)),acs=[.slice A accs.length c]∧RowAt H w accs A Φ∧accs.length≤M∧accs.length≤c∧c < capMark∧(A=none→c=0)
theorem D.sliceNil {w M:Nat} {Φ:Hp→List Value→Prop}:D G g0 W [.slice none 0 0] 0 (RowΦ w M Φ):=by
 intro ws hl
 exact ⟨[],[.slice none 0 0],by simpa using hl,Nat.le_refl _,by simp,fun v hv=>by simp at hv;subst hv;simp,none,0,[],rfl,⟨(fun a ha=>by cases ha),fun h=>absurd rfl h⟩,Nat.zero_le _,Nat.le_refl _,by decide,fun _=>rfl⟩
theorem cells_get {a:Addr} {n:Nat} {cs:List Value} (h:W.cells? 0 a n=some cs):cs.length=n∧∀ j v,cs[j]?=some v→W.cell? (a.add j)=some v:=by
 unfold World.cells? at h
 rw [if_pos (Nat.zero_le _)] at h
 have hlen:∀ (l:List Nat) (cs:List Value),l.mapM (fun i=>W.cell? (a.add i))=some cs→cs.length=l.length∧∀ (j:Nat) (v:Value),cs[j]?=some v→∃ i:Nat,l[j]?=some i∧W.cell? (a.add i)=some v:=by
  intro l
  induction l with
  | nil=>intro cs h;simp at h;subst h;exact ⟨rfl,fun j v h=>by simp at h⟩
  | cons i l ih =>
   intro cs h
   rw [List.mapM_cons] at h
   cases h1:W.cell? (a.add i) with
   | none=>rw [h1] at h;cases h
   | some v0 =>
    rw [h1] at h
    cases h2:l.mapM (fun i=>W.cell? (a.add i)) with
    | none=>rw [h2] at h;cases h
    | some cs0 =>
     rw [h2] at h
     simp only [bind,Option.bind,pure] at h
     injection h with h
     subst h
     obtain ⟨q1,q2⟩:=ih cs0 h2
     refine ⟨by simp [q1],fun j v hj=>?_⟩
     cases j with
     | zero=>simp at hj;subst hj;exact ⟨i,rfl,h1⟩
     | succ j=>simpa using q2 j v (by simpa using hj)
 obtain ⟨q1,q2⟩:=hlen _ _ h
 rw [List.length_range] at q1
 refine ⟨q1,fun j v hj=>?_⟩
 obtain ⟨i,hi,hv⟩:=q2 j v hj
 have hj':=(List.getElem?_eq_some_iff.1 hj).1
 rw [List.getElem?_range (by omega)] at hi
 injection hi with hi
 subst hi;exact hv
theorem flat_get {α:Type} {w:Nat}:∀ {css:List (List α)},(∀ c∈css,c.length=w)→∀ i j,j < w→css.flatten[i * w+j]?=(css[i]?).bind (·[j]?):=by
 intro css
 induction css with
 | nil=>intro _ i j _;simp
 | cons c css ih =>
  intro h i j hj
  have hc:=h c (by simp)
  rw [List.flatten_cons]
  cases i with
  | zero=>rw [List.getElem?_append_left (by omega)];simp
  | succ i =>
   rw [Nat.succ_mul,List.getElem?_append_right (by omega),show i * w+w+j - c.length=i * w+j by omega,ih (fun c' hc'=>h c' (by simp [hc'])) i j hj]
   simp
theorem flat_len {α:Type} {w:Nat}:∀ {css:List (List α)},(∀ c∈css,c.length=w)→css.flatten.length=css.length * w:=by
 intro css
 induction css with
 | nil=>intro _;simp
 | cons c css ih=>intro h;rw [List.flatten_cons,List.length_append,h c (by simp),ih fun c' hc'=>h c' (by simp [hc']),List.length_cons,Nat.succ_mul];omega
theorem D.slice {w N M:Nat} {Φ:Hp→List Value→Prop} (u:UpΦ Φ) {a:Addr} {len cap:Nat} {css:List (List Value)} (hw:0 < w) (hlen:css.length=len) (hd:∀ c∈css,D G g0 W c N Φ) (hc:∀ i c,css[i]?=some c→W.cells? 0 (a.add (i * w)) w=some c) (hle:len≤cap) (hcap:cap < capMark) (hM:len≤M) (hsp:css≠[]→a.spot=none) :
 D G g0 W [.slice (some a) len cap] (len * N+1) (RowΦ w M Φ):=by
 intro ws hl
 obtain ⟨more,accs,l1,n1,e1,b1,p1⟩:=D.many u hd ws hl
 have hal:accs.length=len:=by have:=congrArg List.length e1;rw [List.length_map] at this;omega
 have hwid:∀ c∈css,c.length=w:=by
  intro c hcm
  obtain ⟨i,hi⟩:=List.mem_iff_getElem?.1 hcm
  exact (cells_get (hc i c hi)).1
 have hawid:∀ x∈accs,x.length=w:=by
  intro x hx
  have:x.map (ren (envW G (ws++more)))∈css:=by rw [← e1];exact List.mem_map.2 ⟨x,hx,rfl⟩
  have:=hwid _ this
  rwa [List.length_map] at this
 have hcell:∀ k v,css.flatten[k]?=some v→W.cell? (a.add k)=some v:=by
  intro k v hk
  have hk':k < css.length * w:=by rw [← flat_len hwid];exact (List.getElem?_eq_some_iff.1 hk).1
  have e:k=k / w * w+k % w:=by rw [Nat.mul_comm];exact (Nat.div_add_mod k w).symm
  rw [e,flat_get hwid _ _ (Nat.mod_lt _ hw)] at hk
  cases hx:css[k / w]? with
  | none=>rw [hx] at hk;cases hk
  | some c =>
   rw [hx] at hk
   have:=(cells_get (hc _ c hx)).2 _ v hk
   have e2:(a.add (k / w * w)).add (k % w)=a.add k:=by
    rw [show a.add k=a.add (k / w * w+k % w) by rw [← e]]
    unfold Addr.add
    by_cases h1:k / w * w=0<;>by_cases h2:k % w=0<;>simp [h1,h2,Nat.add_assoc]<;>omega
   rw [e2] at this;exact this
 let ws1:=ws++more
 let blk:Option Blk:=if accs=[] then none else match W.heap[a.block]? with|some (.cells _ t _)=>some ⟨⟨accs.flatten⟩,t⟩|_=>none
 have hflat:(accs.flatten).map (ren (envW G ws1))=css.flatten:=by rw [← e1,List.map_flatten]
 have haf:accs.flatten.length=len * w:=by rw [flat_len hawid,hal]
 have hcells:accs≠[]→∃ c t fr,W.heap[a.block]?=some (.cells c t fr)∧a.off+len * w≤c.size∧∀ k v,css.flatten[k]?=some v→c[a.off+k]?=some v:=by
  intro hne
  have hl0:0 < len:=by rw [← hal];exact List.length_pos_iff.2 hne
  have hsp:=hsp (fun e=>by rw [e] at hlen;simp at hlen;omega)
  have hcf:css.flatten.length=len * w:=by rw [flat_len hwid,hlen]
  have hpos:0 < len * w:=Nat.mul_pos hl0 hw
  have get:∀ k,k < len * w→∃ c t fr,W.heap[a.block]?=some (.cells c t fr)∧c[a.off+k]?=css.flatten[k]?:=by
   intro k hk
   have h1:=hcell k _ (List.getElem?_eq_getElem (by omega:k < css.flatten.length))
   unfold World.cell? at h1
   have hb:(a.add k).block=a.block:=add_block a k
   have ho:(a.add k).off=a.off+k:=by unfold Addr.add;split<;>simp_all
   have hs:(a.add k).spot=none:=by unfold Addr.add;split<;>simp_all
   rw [hb,ho,hs] at h1
   split at h1
   ·rename_i c t fr hh
    simp only [Option.isSome_none,Bool.false_eq_true,if_false] at h1
    exact ⟨c,t,fr,hh,by rw [h1];exact (List.getElem?_eq_getElem _).symm⟩
   ·cases h1
  obtain ⟨c,t,fr,hh,_⟩:=get 0 hpos
  have get':∀ k,k < len * w→c[a.off+k]?=css.flatten[k]?:=by
   intro k hk
   obtain ⟨c',t',fr',hh',hv⟩:=get k hk
   rw [hh] at hh'
   injection hh' with hh'
   injection hh' with q1 q2 q3
   rw [q1];exact hv
  refine ⟨c,t,fr,hh,?_,fun k v hk=>?_⟩
  ·have:=get' (len * w - 1) (by omega)
   rw [List.getElem?_eq_getElem (by omega)] at this
   have:=(Array.getElem?_eq_some_iff.1 this).1
   omega
  ·rw [get' k (by have:=(List.getElem?_eq_some_iff.1 hk).1;omega)];exact hk
 have l2:Lay G W (ws1++[⟨a,blk⟩]):=by
  refine l1.snoc _ fun b hb=>?_
  simp only [blk] at hb
  by_cases hne:accs=[]
  ·rw [if_pos hne] at hb;cases hb
  ·rw [if_neg hne] at hb
   obtain ⟨c,t,fr,hh,hsz,hv⟩:=hcells hne
   rw [hh] at hb
   simp only [Option.some.injEq] at hb
   subst hb
   refine ⟨⟨c.extract 0 a.off,c.extract (a.off+len * w) c.size,fr,?_,by simp;omega⟩,fun v hv=>?_⟩
   ·rw [hh]
    congr 2
    have hmid:(⟨accs.flatten⟩:Array Value).map (ren (envW G ws1))=c.extract a.off (a.off+len * w):=by
     apply Array.ext'
     simp only [List.map_toArray,hflat]
     apply List.ext_getElem?
     intro k
     rw [Array.getElem?_toList (xs:=c.extract a.off (a.off+len * w)),Array.getElem?_extract]
     show css.flatten[k]?=_
     by_cases hk:k < len * w
     ·have hk2:k < css.flatten.length:=by rw [flat_len hwid,hlen];exact hk
      rw [if_pos (by omega),List.getElem?_eq_getElem hk2]
      exact (hv k _ (List.getElem?_eq_getElem hk2)).symm
     ·rw [if_neg (by omega),List.getElem?_eq_none (by rw [flat_len hwid,hlen];omega)]
    rw [hmid,Array.extract_append_extract,Nat.zero_min,Nat.max_eq_right (by omega),Array.extract_append_extract,Nat.zero_min,Nat.max_eq_right (by omega)]
    simp
   ·have hv':v∈accs.flatten:=by simpa using hv
    obtain ⟨x,hx,hvx⟩:=List.mem_flatten.1 hv'
    exact b1 x hx v hvx
 refine ⟨more++[⟨a,blk⟩],[.slice (some ⟨G+ws1.length,0,a.spot⟩) len cap],by rw [← List.append_assoc];exact l2,by rw [List.length_append];simp only [List.length_singleton];rw [hlen] at n1;omega,?_,?_,some ⟨G+ws1.length,0,a.spot⟩,cap,accs,by rw [hal],⟨?_,?_⟩,by omega,by omega,hcap,fun h=>by cases h⟩
 ·simp only [List.map_cons,List.map_nil,ren_slice]
  rw [← List.append_assoc]
  have h1:(ws1++[⟨a,blk⟩])[G+ws1.length - G]?=some ⟨a,blk⟩:=by
   rw [Nat.add_sub_cancel_left,List.getElem?_append_right (Nat.le_refl _)];simp
  have e1:renAddr (envW G (ws1++[⟨a,blk⟩])) ⟨G+ws1.length,0,a.spot⟩=a:=by
   unfold renAddr envW
   simp only [h1]
   rw [if_neg (by omega),if_neg (by omega)]
   obtain ⟨ab,ao,as⟩:=a
   simp
  show [Value.slice (some (renAddr (envW G (ws1++[⟨a,blk⟩])) ⟨G+ws1.length,0,a.spot⟩)) len (renCap _ _ cap)]=_
  rw [e1]
  unfold renCap
  rw [if_pos hcap]
 ·intro v hv
  simp only [List.mem_singleton] at hv
  subst hv
  rw [bnd_slice]
  simp only [List.length_append,List.length_singleton,ws1];omega
 ·intro x hx
  refine ⟨u _ _ _ ?_ (p1 x hx),hawid x hx⟩
  rw [← List.append_assoc]
  exact hpW_up _ _ _ _
 ·intro hne
  obtain ⟨c,t,fr,hh,_⟩:=hcells hne
  refine ⟨G+ws1.length,t,by rw [hsp (fun e=>by rw [e] at hlen;simp at hlen;have:=List.length_pos_iff.2 hne;omega)],?_⟩
  rw [← List.append_assoc]
  unfold hpW
  simp only
  rw [if_neg (by omega),Nat.add_sub_cancel_left,List.getElem?_append_right (Nat.le_refl _)]
  simp only [Nat.sub_self,List.getElem?_cons_zero,Option.bind_some,blk]
  rw [if_neg hne,hh]
theorem hpW_n (G:Nat) (g0:Nat→Option Blk) (ws:List Win):(hpW G g0 ws).n=rwM:=by simp only [hpW]
theorem Lay.hok {ws:List Win} (hl:Lay G W ws) (hG:G+ws.length≤rwM) (hg0:∀ i b,i < G→g0 i=some b→(∃ (tail:Array Value) (fr:Nat × Nat),W.heap[i]?=some (.cells (b.cells++tail) b.elem fr))∧∀ v∈b.cells,bnd 0 v):HOK G (hpW G g0 ws) (envW G ws) W:=by
 refine ⟨fun i b hb=>?_,fun i b hb=>?_,fun i j b c hi0 hb=>?_,fun i b hb=>?_,fun g hg=>?_,Nat.le_of_eq (hpW_n _ _ _).symm,Nat.le_trans (Nat.le_add_right _ _) hG⟩
 ·unfold hpW at hb
  simp only at hb
  split at hb
  ·rename_i hi
   obtain ⟨⟨tail,fr,he⟩,hf⟩:=hg0 i b hi hb
   refine .inl ⟨#[],tail,fr,?_,?_,fun hr=>by omega⟩
   ·unfold envW;simp only [if_pos hi]
    rw [he]
    congr 2
    rw [Array.map_congr_left (g:=id) fun v hv=>ren_free _ v (hf v hv)];simp
   ·unfold envW;simp [hi]
  ·rename_i hi
   cases hw:ws[i - G]? with
   | none=>rw [hw] at hb;cases hb
   | some w =>
    rw [hw] at hb
    obtain ⟨pre,tail,fr,he,hp⟩:=hl.fits _ w b hw hb
    have hlt:=(List.getElem?_eq_some_iff.1 hw).1
    refine .inl ⟨pre,tail,fr,?_,?_,fun hr=>by omega⟩
    ·unfold envW;simp only [if_neg hi,hw];exact he
    ·unfold envW;simp only [if_neg hi,hw];exact hp
 ·unfold hpW at hb ⊢
  simp only at hb ⊢
  split at hb
  ·omega
  ·cases hw:ws[i - G]? with
   | none=>rw [hw] at hb;cases hb
   | some w=>have:=(List.getElem?_eq_some_iff.1 hw).1;omega
 ·exfalso
  unfold hpW at hb
  simp only at hb
  split at hb
  ·omega
  ·cases hw:ws[i - G]? with
   | none=>rw [hw] at hb;cases hb
   | some w=>have:=(List.getElem?_eq_some_iff.1 hw).1;omega
 ·intro v hv
  unfold hpW at hb ⊢
  simp only at hb ⊢
  split at hb
  ·rename_i hi
   exact bnd_mono (Nat.zero_le _) v ((hg0 i b hi hb).2 v hv)
  ·cases hw:ws[i - G]? with
   | none=>rw [hw] at hb;cases hb
   | some w =>
    rw [hw] at hb
    exact bnd_mono hG v (hl.bd _ w b hw hb v hv)
 ·unfold envW;simp [hg]
end Go.AH
namespace Go.AH
variable {P:Program}
def preVl {α:Type} (sz a n:Nat):List α→Value
 | []=>.slice none 0 0
 | _::_=>.slice (some ⟨a,0,none⟩) n (capOf sz)
section
variable {ops:Array Oper} {draw:Bool} {rs:List Rk} {l:List Oper} {fl:List (Nat × Value)} {nt:Nat} {B:Hp} {π:Nat→Nat} {k:Nat} {hl:List (Nat × Option Blk)} {K:Fr→SH→Prop} {d:Tmp} {ty:TypeId} {pos:String} {af:Array Edge} {gd:Option (Nat × Bool)}
end
end Go.AH
namespace Go.AH
variable {P:Program}
structure Absb (h:SH) (B':Hp):Prop where
 dom:∀ i b,B'.m i=some b→i < B'.n
 old:∀ i,i < h.base.n→B'.m i=h.base.m i
 loc:∀ i,i < h.k→B'.m (h.π i)=lookB h.l i
 n:B'.n=h.π h.k
 lo:∀ i,i < h.k→h.base.n≤h.π i
 hi:∀ i,i < h.k→h.π i < B'.n
 inj:∀ i j,i < h.k→j < h.k→h.π i=h.π j→i=j
 le:h.base.n≤B'.n
 rw:rwM≤h.base.n
 bdom:∀ i b,h.base.m i=some b→i < h.base.n
 sat:Sat P B'
theorem Absb.of {h:SH} (w:h.WF) (s:Sat P h.den):Absb (P:=P) h h.den:=by
 obtain ⟨ρ,W,ho⟩:=s
 exact ⟨ho.lt,fun i hi=>by simp only [SH.den];rw [if_pos hi],fun i hi=>SH.m_loc w hi,rfl,w.lo,w.hi,w.inj,w.bn,w.bo,w.bd,⟨ρ,W,ho⟩⟩
theorem Absb.up {h:SH} {B':Hp} (a:Absb (P:=P) h B'):∀ i b,h.base.m i=some b→B'.m i=some b:=fun i b hb=>by rw [a.old i (a.bdom i b hb)];exact hb
theorem Sat.dom {h:Hp} (s:Sat P h):∀ i b,h.m i=some b→i < h.n:=by obtain ⟨ρ,W,ho⟩:=s;exact ho.lt
theorem Sat.rw {h:Hp} (s:Sat P h):rwM≤h.n:=by obtain ⟨ρ,W,ho⟩:=s;exact ho.gle
theorem Sat.wf {h:Hp} (s:Sat P h):(SH.of h).WF:=SH.of_wf s.rw s.dom
theorem Sat.den {h:Hp} (s:Sat P h):(SH.of h).den=h:=SH.of_den s.dom
theorem W.absorbX [Pend] {c:Code} {f:Fr} {h:SH} {K:Exit→Fr→SH→Prop} (hw:∀ (B':Hp) (π:Nat→Nat),Absb (P:=P) h B'→W P c f ⟨B',π,0,[]⟩ K):W P c f h K:=by
 intro a w s b g
 have hden:=s.den
 obtain ⟨e,f1,h1,a1,k1,w1,s1,b1,g1,t1⟩:=hw _ (SH.of h.den).π (Absb.of w s) a s.wf (by show Sat P (SH.of h.den).den;rw [hden];exact s) (by show bndA (SH.of h.den).den.n a;rw [hden];exact b) g
 have t1:TC P c a (SH.of h.den).den e a1 h1.den:=t1
 rw [hden] at t1
 exact ⟨e,f1,h1,a1,k1,w1,s1,b1,g1,t1⟩
theorem RS.absorbX [Pend] {ops:Array Oper} {rs:List Rk} {l:List Oper} {f:Fr} {h:SH} {K:Fr→SH→Prop} (hw:∀ (B':Hp) (π:Nat→Nat),Absb (P:=P) h B'→RS P ops false rs l f ⟨B',π,0,[]⟩ K):RS P ops false rs l f h K:=by
 intro xs a0 h0 a p
 have hden:=p.sat.den
 have pre:Pre P ops false rs l xs a0 h0 a f (SH.of h.den):=⟨by rw [hden];exact p.chain,p.os,p.ok,p.len,(fun hd=>by cases hd),p.sat.wf,by rw [hden];exact p.sat,by rw [hden];exact p.bnd,p.agr,p.oks⟩
 exact hw _ (SH.of h.den).π (Absb.of p.wf p.sat) xs a0 h0 a pre
theorem TX.more {o:Oper} {a:Act} {h h':Hp} {v:Value} (ht:TX P o a.eval h v h') (hk:∀ x∈o.op.operands,okOp P.globals.size x) (s:Sat P h) (hb:bndA h.n a):h.n≤h'.n∧∀ i b',i < h.n→h'.m i=some b'→∃ b,h.m i=some b:=by
 obtain ⟨ρ,W,ho⟩:=s
 have:=wp_outcome (ht (fun x hx=>eval_bnd ho.gn hb x (hk x hx)) ρ W ho (renA ρ a) (fun _ W'=>∃ ρ',Ext h h' ρ ρ' W W') (fun _ _ _=>False)
  (fun x hx=>eval_ren ho.glob _ x (hk x hx)) fun ρ' W' _ _ hE=>⟨ρ',hE⟩)
 obtain ⟨_,W',ρ',hE⟩:=this
 exact ⟨hE.mono,fun i b' hi hb'=>by obtain ⟨b,h1,_⟩:=hE.surv i b' hi hb';exact ⟨b,h1⟩⟩
theorem RS.stepN [Pend] {ops:Array Oper} {rs:List Rk} {o:Oper} {l:List Oper} {f:Fr} {h:SH} {K:Fr→SH→Prop} (hw:wantB ops o f=some true) (hd:okDst f.nt o.dst=true)
 (h1:∀ a,Agr f a→h.WF→Sat P h.den→bndA h.den.n a→(∀ x∈o.op.operands,okOp P.globals.size x)→∃ v h',TX P o a.eval h.den v h'.den∧h'.WF∧RS P ops false (recP 0 false [] none::rs) l (f.put o.dst v) h' K):RS P ops false rs (o::l) f h K:=by
 intro xs a0 h0 a p
 have hso:ops[xs.length]?=some o:=by
  rw [← Array.getElem?_toList,← p.os,List.getElem?_append_right (by simp)];simp
 have hopk:=okOpsB_ok p.oks hso
 obtain ⟨v,h',htx,hwf,hk⟩:=h1 a p.agr p.wf p.sat p.bnd hopk
 obtain ⟨s1,s2⟩:=TX.sat htx hopk p.sat p.bnd
 obtain ⟨m1,m2⟩:=TX.more htx hopk p.sat p.bnd
 have hhide:∀ H:Hp,H.hide (fun _=>false)=H:=fun H=>Hp.eq (fun id=>by simp [Hp.hide]) rfl
 let x:Inf:={ o:=o,a:=a,h:=h.den,v:=v,h':=h'.den,hid:=fun _=>false,eff:=fun _=>true }
 refine hk (xs++[x]) a0 h0 (a.put o.dst v) ⟨chain_snoc p.chain rfl rfl,?_,?_,?_,(fun hd=>by cases hd),hwf,s1,put_bnd (bndA_mono m1 p.bnd) _ s2,p.agr.put hd v,p.oks⟩
 ·rw [List.map_append,List.append_assoc];exact p.os
 ·intro y hy
  rcases List.mem_append.1 hy with h2|h2
  ·exact p.ok y h2
  ·simp only [List.mem_singleton] at h2
   subst h2
   refine ⟨.inr (.inl ⟨wantB_ok p.agr hw,hopk,?_⟩),m1,fun id hid hn=>?_,(fun id he=>by cases he),fun id _=>rfl⟩
   ·show TX P o a.eval (h.den.hide fun _=>false) v (h'.den.hide fun _=>false)
    rw [hhide,hhide];exact htx
   ·show h'.den.m id=none
    cases hc:h'.den.m id with
    | none=>rfl
    | some b' =>
     obtain ⟨b,hb⟩:=m2 id b' hid hc
     have hn:h.den.m id=none:=hn
     rw [hn] at hb;cases hb
 ·simp [p.len]
def EX (P:Program) (g:FuncId) (args:List Value) (h:Hp) (Q:Value→Hp→Prop):Prop:=Sat P h→(∀ v∈args,bnd h.n v)→∃ v h',TF P g ⟨args⟩ h v h'∧Q v h'
theorem EX.mono {g:FuncId} {args:List Value} {h:Hp} {Q Q':Value→Hp→Prop} (he:EX P g args h Q) (hq:∀ v h',Sat P h→Q v h'→Q' v h'):EX P g args h Q':=by
 intro s b
 obtain ⟨v,h',t,q⟩:=he s b
 exact ⟨v,h',t,hq v h' s q⟩
theorem TF.ex {g:FuncId} {args:List Value} {h h':Hp} {v:Value} (ht:TF P g ⟨args⟩ h v h'):EX P g args h (fun v1 h1=>v1=v∧h1=h'):=fun _ _=>⟨v,h',ht,rfl,rfl⟩
section
variable {ops:Array Oper} {rs:List Rk} {l:List Oper} {fl:List (Nat × Value)} {nt:Nat} {h:SH} {K:Fr→SH→Prop} {d:Tmp} {ty:TypeId} {pos:String} {af:Array Edge} {gd:Option (Nat × Bool)}
theorem evAll_bnd [Pend] {n:Nat} {a:Act} {f:Fr} (g:Agr f a) (hG:P.globals.size≤n) (hb:bndA n a):∀ {xs:List Operand} {vs:List Value},(∀ x∈xs,okOp P.globals.size x)→evAll f.l f.nt xs=some vs→∀ v∈vs,bnd n v:=by
 intro xs
 induction xs with
 | nil=>intro vs _ he v hv;simp only [evAll,Option.some.injEq] at he;subst he;cases hv
 | cons x xs ih =>
  intro vs hk he v hv
  have hall:=evAll_ok g he
  have:v∈(x::xs).map a.eval:=by rw [hall];exact hv
  obtain ⟨y,hy,rfl⟩:=List.mem_map.1 this
  exact eval_bnd hG hb y (hk y hy)
theorem RS.callEx [Pend] {g0:FuncId} {xs:Array Operand} {ts:Array TypeId} {vs:List Value} [hg:GF P g0] (hw:wantB ops ⟨some d,.call { callee:=.value (.func g0),args:=xs,argTypes:=ts },ty,pos,af,gd⟩ ⟨fl,nt⟩=some true) (hd:Nat.blt d nt=true)
 (hx:evAll fl nt xs.toList=some vs) (ht:∀ B',Absb (P:=P) h B'→∃ Q,EX P g0 vs B' Q∧∀ v H' π,Q v H'→Sat P H'→B'.n≤H'.n→RS P ops false (recP 0 false [] none::rs) l ⟨(d,v)::fl,nt⟩ ⟨H',π,0,[]⟩ K) :
 RS P ops false rs (⟨some d,.call { callee:=.value (.func g0),args:=xs,argTypes:=ts },ty,pos,af,gd⟩::l) ⟨fl,nt⟩ h K:=by
 refine RS.stepN hw hd fun a g w s b hk=>?_
 obtain ⟨Q,he,hq⟩:=ht _ (Absb.of w s)
 have hgn:P.globals.size≤h.den.n:=by obtain ⟨ρ,W,ho⟩:=s;exact ho.gn
 obtain ⟨v,H',htf,q⟩:=he s (evAll_bnd g hgn b (fun x hx'=>hk x (by simp [Op.operands,Call.operands] at hx' ⊢;first|exact hx'|exact .inr hx'|exact .inl hx')) hx)
 have htx:=tx_call (ty:=ty) (pos:=pos) (af:=af) (gd:=gd) (d:=d) (ts:=ts) g hx htf
 have s1:=(TX.sat htx hk s b).1
 have m1:=(TX.more htx hk s b).1
 exact ⟨v,SH.of H',by rw [s1.den];exact htx,s1.wf,hq v H' _ q s1 m1⟩
theorem RS.callA [Pend] {g0:FuncId} {xs:Array Operand} {ts:Array TypeId} {vs:List Value} {v:Value} [hg:GF P g0] (hw:wantB ops ⟨some d,.call { callee:=.value (.func g0),args:=xs,argTypes:=ts },ty,pos,af,gd⟩ ⟨fl,nt⟩=some true) (hd:Nat.blt d nt=true)
 (hx:evAll fl nt xs.toList=some vs) (ht:∀ B',Absb (P:=P) h B'→TF P g0 ⟨vs⟩ B' v B') (hk:RS P ops false (recP 0 false [] none::rs) l ⟨(d,v)::fl,nt⟩ h K) :
 RS P ops false rs (⟨some d,.call { callee:=.value (.func g0),args:=xs,argTypes:=ts },ty,pos,af,gd⟩::l) ⟨fl,nt⟩ h K :=
 RS.stepN hw hd fun _ g w s _ _=>⟨v,h,tx_call g hx (ht _ (Absb.of w s)),w,hk⟩
end
section
variable {ops:Array Oper} {rs:List Rk} {l:List Oper} {fl:List (Nat × Value)} {nt:Nat} {B:Hp} {π:Nat→Nat} {k:Nat} {hl:List (Nat × Option Blk)} {K:Fr→SH→Prop} {d:Tmp} {ty:TypeId} {pos:String} {af:Array Edge} {gd:Option (Nat × Bool)}
theorem RS.storeB [Pend] {draw:Bool} {t:TypeId} {x y:Operand} {blk off size:Nat} {cs cs':List Value} {e:TypeId} {v:Value} [hu:TySz P t size] (hw:wantB ops ⟨none,.store t x y,ty,pos,af,gd⟩ ⟨fl,nt⟩=some true) (hx:Fr.ev ⟨fl,nt⟩ x=some (.pointer (some ⟨blk,off,none⟩))) (hy:Fr.ev ⟨fl,nt⟩ y=some v)
 (hb:B.m blk=some ⟨⟨cs⟩,e⟩) (hlt:blk < B.n) (hrw:rwM≤blk) (hn:off+size≤cs.length) (hsz:Nat.beq (cellsV v).length size=true) (hone:(cellsV v).all (·.oneCell')=true) (hc:setL cs off (cellsV v)=cs')
 (hk:RS P ops draw (recWB k [] (some [])::rs) l ⟨fl,nt⟩ ⟨B.set blk ⟨⟨cs'⟩,e⟩,π,k,hl⟩ K):RS P ops draw rs (⟨none,.store t x y,ty,pos,af,gd⟩::l) ⟨fl,nt⟩ ⟨B,π,k,hl⟩ K:=by
 have h2:=hu.eq
 cases hti:P.info? t with
 | none=>rw [hti] at h2;cases h2
 | some ti =>
  rw [hti] at h2
  have h3:ti.size=size:=by simpa using h2
  subst h3
  refine RS.step hw rfl (One.writeB (h:=⟨B,π,k,hl⟩) (vl:=[]) (nv:=some []) (b:=⟨⟨cs⟩,e⟩) (b':=⟨⟨cs'⟩,e⟩) hb (fun a g H hs=>?_) Nm_undef hlt) hk
  have hm:H.m blk=some ⟨⟨cs⟩,e⟩:=by rw [hs.b rfl blk hlt];exact hb
  have:=TX.store (P:=P) (o:=⟨none,.store t x y,ty,pos,af,gd⟩) (ev:=a.eval) (h:=H) rfl hti (g.ev hx) rfl hrw hm (by rw [g.ev hy,cellsV_eq];exact Nat.eq_of_beq_eq_true hsz) (by rw [g.ev hy];unfold oneCells;rw [cellsV_eq];simpa using hone) (by simpa using hn)
  rw [g.ev hy] at this
  simp only [setFrom_eq,cellsV_eq,hc] at this
  exact this
theorem RS.callWB [Pend] {draw:Bool} {g0:FuncId} {xs:Array Operand} {ts:Array TypeId} {vs:List Value} {v:Value} {blk:Nat} {b b':Blk} (vl:List Nat) [hg:GF P g0] (hw:wantB ops ⟨some d,.call { callee:=.value (.func g0),args:=xs,argTypes:=ts },ty,pos,af,gd⟩ ⟨fl,nt⟩=some true) (hd:Nat.blt d nt=true)
 (hx:evAll fl nt xs.toList=some vs) (hb:B.m blk=some b) (hlt:blk < B.n) (ht:∀ H:Hp,Sees ⟨B,π,k,hl⟩ true vl H→TF P g0 ⟨vs⟩ H v (H.set blk b'))
 (hk:RS P ops draw (recWB k vl none::rs) l ⟨(d,v)::fl,nt⟩ ⟨B.set blk b',π,k,hl⟩ K):RS P ops draw rs (⟨some d,.call { callee:=.value (.func g0),args:=xs,argTypes:=ts },ty,pos,af,gd⟩::l) ⟨fl,nt⟩ ⟨B,π,k,hl⟩ K :=
 RS.step hw hd (One.writeB (h:=⟨B,π,k,hl⟩) (b:=b) (nv:=none) hb (fun _ g H hs=>tx_call g hx (ht H hs)) trivial hlt) hk
end
section
variable {ops:Array Oper} {draw:Bool} {rs:List Rk} {l:List Oper} {fl:List (Nat × Value)} {nt:Nat} {h:SH} {K:Fr→SH→Prop} {d:Tmp} {ty:TypeId} {pos:String} {af:Array Edge} {gd:Option (Nat × Bool)}
end
theorem ResV.bnd [Pend] {fl:List (Nat × Value)} {nt:Nat} {h:SH} (w:h.WF) (s:Sat P h.den) {r:ResultVar} {v:Value} (hr:ResV P fl h r v) {a:Act} (hb:bndA h.den.n a) (g:Agr ⟨fl,nt⟩ a):Go.AH.bnd h.den.n v:=by
 cases hr with
 | tmp hv=>exact hb.1 _ (Array.mem_of_getElem? (g.get _ _ hv))
 | cell1 hx hi hbk hv =>
  have hm:=SH.m_loc w (blt_iff.1 hi)
  rw [hbk] at hm
  rw [nthV_eq] at hv
  exact s.bd _ _ hm _ (by simpa using List.mem_of_getElem? hv)
 | cellN hx hi hbk hn =>
  have hm:=SH.m_loc w (blt_iff.1 hi)
  rw [hbk] at hm
  rw [bnd_agg]
  intro u hu
  refine s.bd _ _ hm _ ?_
  simp only [List.mem_toArray,takeV_eq] at hu
  simpa using List.mem_of_mem_drop (List.mem_of_mem_take hu)
 | baseN hx hbk hn hv =>
  subst hv
  have hm:=SH.m_base w hbk
  rw [bnd_agg]
  intro u hu
  refine s.bd _ _ hm _ ?_
  simp only [List.mem_toArray,takeV_eq] at hu
  simpa using List.mem_of_mem_drop (List.mem_of_mem_take hu)
theorem ResVs.bnd [Pend] {fl:List (Nat × Value)} {nt:Nat} {h:SH} (w:h.WF) (s:Sat P h.den) {rs:List ResultVar} {vs:List Value} (hr:ResVs P fl h rs vs) {a:Act} (hb:bndA h.den.n a) (g:Agr ⟨fl,nt⟩ a):Go.AH.bnd h.den.n (resultOf vs):=by
 have hall:∀ v∈vs,Go.AH.bnd h.den.n v:=by
  induction hr with
  | nil=>intro v hv;cases hv
  | cons h1 _ ih =>
   intro v hv
   rcases List.mem_cons.1 hv with e|e
   ·subst e;exact h1.bnd w s hb g
   ·exact ih v e
 match vs,hall with
 | [],_=>simp [resultOf]
 | [v],hall=>exact hall v (by simp)
 | u::v::l,hall =>
  simp only [resultOf,bnd_tuple]
  intro x hx
  exact hall x (by simpa using hx)
theorem EX.intro {g:FuncId} {fn:Func} {c:Code} {args:List Value} {nt:Nat} {h:Hp} {Q:Value→Hp→Prop} (hf:P.funcs[g]?=some fn) (hb:fn.body=some c) (ht:fn.ntmps=nt) (hn:Nat.ble args.length nt=true)
 (hw:∀ π:Nat→Nat,Sat P h→W P c ⟨enterL 0 args,nt⟩ ⟨h,π,0,[]⟩ (endsK P fn fun vs h'=>∀ B',Absb (P:=P) h' B'→Q (resultOf vs) B')):EX P g args h Q:=by
 subst ht
 intro s ha
 have hden:=s.den
 obtain ⟨e,f',h',a',k1,w1,s1,b1,g1,t1⟩:=hw (SH.of h).π s (enterAct fn ⟨args⟩) s.wf (by show Sat P (SH.of h).den;rw [hden];exact s) (by show bndA (SH.of h).den.n _;rw [hden];exact enterAct_bnd (fun x hx=>ha x (by simpa using hx))) (enter_agr (ble_iff.1 hn))
 have t1:TC P c (enterAct fn ⟨args⟩) (SH.of h).den e a' h'.den:=t1
 rw [hden] at t1
 have fin:∀ vs,(e=.ret∨e=.normal)→ResVs P f'.l h' fn.results.toList vs→(∀ B',Absb (P:=P) h' B'→Q (resultOf vs) B')→∃ v H,TF P g ⟨args⟩ h v H∧Q v H:=by
  intro vs he hr hq
  refine ⟨resultOf vs,h'.den,TF.intro hf hb he t1 g1.defers (fun hb1 hb2=>?_) (hr.is w1 g1),hq _ (Absb.of w1 s1)⟩
  exact hr.bnd w1 s1 b1 g1
 cases e with
 | ret=>obtain ⟨vs,h1,h2⟩:=k1;exact fin vs (.inl rfl) h1 h2
 | normal=>obtain ⟨vs,h1,h2⟩:=k1;exact fin vs (.inr rfl) h1 h2
 | _=>exact k1.elim
theorem TF.exact {g:FuncId} {fn:Func} {c:Code} {args:List Value} {nt:Nat} {h h2:Hp} {v:Value} (hf:P.funcs[g]?=some fn) (hb:fn.body=some c) (ht:fn.ntmps=nt) (hn:Nat.ble args.length nt=true)
 (hs:Sat P h→h.n≤h2.n∧bnd h2.n v∧∀ i b,h2.m i=some b→i < h2.n∧∀ u∈b.cells,bnd h2.n u)
 (hw:∀ π:Nat→Nat,Sat P h→W P c ⟨enterL 0 args,nt⟩ ⟨h,π,0,[]⟩ (endsK P fn fun vs h'=>∀ B',Absb (P:=P) h' B'→resultOf vs=v∧∀ i b,h2.m i=some b→B'.m i=some b)):TF P g ⟨args⟩ h v h2:=by
 intro ha ρ W hok
 have s:Sat P h:=⟨ρ,W,hok⟩
 obtain ⟨v1,h1,htf,hv,hm⟩:=EX.intro (Q:=fun u B'=>u=v∧∀ i b,h2.m i=some b→B'.m i=some b) hf hb ht hn hw s (fun x hx=>ha x (by simpa using hx))
 subst hv
 obtain ⟨g1,g2,g3⟩:=hs s
 refine (htf ha ρ W hok).mono ?_
 rintro e W' ⟨ρ',rfl,_,hok',hE⟩
 exact ⟨ρ',rfl,g2,⟨fun i b hb=>hok'.fits _ _ (hm i b hb),fun i b hb=>(g3 i b hb).1,fun i j b c hi0 hb hc hl=>hok'.inj _ _ _ _ hi0 (hm i b hb) (hm j c hc) hl,fun i b hb=>(g3 i b hb).2,hok'.glob,Nat.le_trans hok.gle g1,hok.gow⟩,
  ⟨hE.agree,g1,hE.kept,hE.size,fun i b hi0 hb hl=>hE.own i b hi0 (hm i b hb) hl,hE.tape,hE.os,hE.output,fun i b hin hb=>hE.surv i b hin (hm i b hb)⟩⟩
def roundN (P:Program) {X:Type} (F:X→List (Nat × Value)) (I:X→Hp→Prop) (μ:X→Nat) (nt:Nat) (x:X) (K:Exit→Fr→SH→Prop):Exit→Fr→SH→Prop
 | .normal,f,h=>∀ B',Absb (P:=P) h B'→∃ x':X,f.nt=nt∧AllV f.l (F x')∧I x' B'∧μ x' < μ x
 | e,f,h=>K e f h
theorem W.loopN [Pend] {X:Type} {body:Code} {f:Fr} {h:SH} {K:Exit→Fr→SH→Prop} (F:X→List (Nat × Value)) (I:X→Hp→Prop) (μ:X→Nat)
 (h0:∀ B',Absb (P:=P) h B'→∃ x0,AllV f.l (F x0)∧I x0 B') (hr:∀ x B π,Sat P B→I x B→W P body ⟨F x,f.nt⟩ ⟨B,π,0,[]⟩ (roundN P F I μ f.nt x K)):W P (.loop body) f h K:=by
 intro a w s b g
 obtain ⟨x0,hf0,hI0⟩:=h0 _ (Absb.of w s)
 have key:∀ n (x:X) (B:Hp) (f1:Fr) (a1:Act),f1.nt=f.nt→μ x < n→I x B→Sat P B→bndA B.n a1→Agr f1 a1→AllV f1.l (F x) →
  ∃ e f' h' a',K e f' h'∧h'.WF∧Sat P h'.den∧bndA h'.den.n a'∧Agr f' a'∧TR P n body a1 B e a' h'.den:=by
  intro n
  induction n with
  | zero=>intro x B f1 a1 _ hm;omega
  | succ n ih =>
   intro x B f1 a1 hnt hm hI s1 b1 g1 ft
   have hden:=s1.den
   obtain ⟨e,f3,h3,a3,k3,w3,s3,b3,g3,t3⟩:=hr x B (SH.of B).π s1 hI a1 s1.wf (by show Sat P (SH.of B).den;rw [hden];exact s1) (by show bndA (SH.of B).den.n _;rw [hden];exact b1) (g1.weak (by simp [hnt]) fun t v hv=>ft.get t v hv)
   have t3:TC P body a1 (SH.of B).den e a3 h3.den:=t3
   rw [hden] at t3
   have outE:e≠.normal→K e f3 h3→∃ e f' h' a',K e f' h'∧h'.WF∧Sat P h'.den∧bndA h'.den.n a'∧Agr f' a'∧TR P (n+1) body a1 B e a' h'.den :=
    fun hne hk=>⟨e,f3,h3,a3,hk,w3,s3,b3,g3,TR.out t3 hne⟩
   cases e with
   | normal =>
    obtain ⟨x',hnt3,ft',hI',hμ⟩:=k3 _ (Absb.of w3 s3)
    obtain ⟨e,f4,h4,a4,k4,w4,s4,b4,g4,t4⟩:=ih x' _ f3 a3 hnt3 (by omega) hI' s3 b3 g3 ft'
    exact ⟨e,f4,h4,a4,k4,w4,s4,b4,g4,TR.next t3 t4⟩
   | _=>exact outE (by simp) k3
 obtain ⟨e,f',h',a',k1,w1,s1,b1,g1,t1⟩:=key (μ x0+1) x0 h.den f a rfl (by omega) hI0 s b g hf0
 exact ⟨e,f',h',a',k1,w1,s1,b1,g1,TR.loop t1⟩
section
variable {X:Type} {F:X→List (Nat × Value)} {I:X→Hp→Prop} {μ:X→Nat} {nt:Nat} {x:X} {K:Exit→Fr→SH→Prop} {f:Fr} {h:SH}
theorem roundN_n (hn:f.nt=nt) (hx:∀ B',Absb (P:=P) h B'→∃ x':X,AllV f.l (F x')∧I x' B'∧μ x' < μ x):roundN P F I μ nt x K .normal f h:=fun B' hB=>by
 obtain ⟨x',h1,h2,h3⟩:=hx B' hB
 exact ⟨x',hn,h1,h2,h3⟩
theorem roundN_e {i:Nat} (hk:K (.exit i) f h):roundN P F I μ nt x K (.exit i) f h:=hk
theorem roundN_r (hk:K .ret f h):roundN P F I μ nt x K .ret f h:=hk
def joinN (P:Program) (F:X→List (Nat × Value)) (I:X→Hp→Prop) (nt:Nat) (K:Exit→Fr→SH→Prop):Exit→Fr→SH→Prop
 | .normal,f,h=>∀ B',Absb (P:=P) h B'→∃ x:X,f.nt=nt∧AllV f.l (F x)∧I x B'
 | e,f,h=>K e f h
theorem joinN_n (hn:f.nt=nt) (hx:∀ B',Absb (P:=P) h B'→∃ x:X,AllV f.l (F x)∧I x B'):joinN P F I nt K .normal f h:=fun B' hB=>by
 obtain ⟨x',h1,h2⟩:=hx B' hB
 exact ⟨x',hn,h1,h2⟩
theorem joinN_imp [Pend] {y:Code} (hy:∀ x B π,Sat P B→I x B→W P y ⟨F x,nt⟩ ⟨B,π,0,[]⟩ K):∀ e f h,joinN P F I nt K e f h→thenK P y K e f h:=by
 intro e f h hj
 cases e with
 | normal =>
  refine W.absorbX fun B' π hB=>?_
  obtain ⟨x,hn,ft,hI⟩:=hj B' hB
  exact W.weak (f':=⟨F x,nt⟩) hn.symm (fun t v hv=>ft.get t v hv) (hy x B' π hB.sat hI)
 | _=>exact hj
end
theorem W.joinNT [Pend] {X:Type} {c y:Code} {f:Fr} {h:SH} {K:Exit→Fr→SH→Prop} (F:X→List (Nat × Value)) (I:X→Hp→Prop)
 (hx:W P c f h (joinN P F I f.nt K)) (hy:∀ x B π,Sat P B→I x B→W P y ⟨F x,f.nt⟩ ⟨B,π,0,[]⟩ K):W P c f h (thenK P y K):=W.mono hx (joinN_imp hy)
theorem W.joinNB [Pend] {X:Type} {c y:Code} {id:Nat} {f:Fr} {h:SH} {K:Exit→Fr→SH→Prop} (F:X→List (Nat × Value)) (I:X→Hp→Prop)
 (hx:W P c f h (blockK id (joinN P F I f.nt K))) (hy:∀ x B π,Sat P B→I x B→W P y ⟨F x,f.nt⟩ ⟨B,π,0,[]⟩ K):W P c f h (blockK id (thenK P y K)):=W.mono hx (blockK_mono (joinN_imp hy))
end Go.AH
namespace Go.AH
variable {P:Program}
def TFD (P:Program) (g:FuncId) (args:Array Value) (h h':Hp):Prop:=(∀ x∈args,bnd h.n x)→∀ ρ W,HOK P.globals.size h ρ W →
 CallsD P g (args.map (ren ρ)) .returning W fun e u W'=>u=.returning∧∃ v ρ',e=.returned v∧HOK P.globals.size h' ρ' W'∧Ext h h' ρ ρ' W W'
theorem TFD.intro {f:FuncId} {fn:Func} {c:Code} {args:Array Value} {h h':Hp} {a':Act} {v:Value} {e:Exit} (hf:P.funcs[f]?=some fn) (hb:fn.body=some c) (he:e=.ret∨e=.normal)
 (hc:TC P c (enterAct fn args) h e a' h') (hd:a'.defers=[]) (hr:ResIs P fn a' h' v):TFD P f args h h':=by
 intro hargs ρ W hok
 refine (callsD_of_wp (R:=fun e W'=>∃ v ρ',e=.returned v∧HOK P.globals.size h' ρ' W'∧Ext h h' ρ ρ' W W') hf hb ?_).mono fun e u W' h=>h
 rw [← enterAct_ren]
 refine wp_mono (hc (enterAct_bnd hargs) ρ W hok) ?_
 rintro e' A W' ⟨rfl,ρ',rfl,hb',hok',hE⟩
 have:(renA ρ' a').defers=[]:=by simp [renA,hd]
 rcases he with rfl|rfl
 ·exact ⟨this,_,hr ρ' W' hok',_,ρ',rfl,hok',hE⟩
 ·exact ⟨this,_,hr ρ' W' hok',_,ρ',rfl,hok',hE⟩
def EXD (P:Program) (g:FuncId) (args:List Value) (h:Hp) (Q:Hp→Prop):Prop:=Sat P h→(∀ v∈args,bnd h.n v)→∃ h',TFD P g ⟨args⟩ h h'∧Q h'
theorem EXD.intro {g:FuncId} {fn:Func} {c:Code} {args:List Value} {nt:Nat} {h:Hp} {Q:Hp→Prop} (hf:P.funcs[g]?=some fn) (hb:fn.body=some c) (ht:fn.ntmps=nt) (hn:Nat.ble args.length nt=true)
 (hw:∀ π:Nat→Nat,Sat P h→W P c ⟨enterL 0 args,nt⟩ ⟨h,π,0,[]⟩ (endsK P fn fun _ h'=>∀ B',Absb (P:=P) h' B'→Q B')):EXD P g args h Q:=by
 subst ht
 intro s ha
 have hden:=s.den
 obtain ⟨e,f',h',a',k1,w1,s1,b1,g1,t1⟩:=hw (SH.of h).π s (enterAct fn ⟨args⟩) s.wf (by show Sat P (SH.of h).den;rw [hden];exact s) (by show bndA (SH.of h).den.n _;rw [hden];exact enterAct_bnd (fun x hx=>ha x (by simpa using hx))) (enter_agr (ble_iff.1 hn))
 have t1:TC P c (enterAct fn ⟨args⟩) (SH.of h).den e a' h'.den:=t1
 rw [hden] at t1
 have fin:∀ vs,(e=.ret∨e=.normal)→ResVs P f'.l h' fn.results.toList vs→(∀ B',Absb (P:=P) h' B'→Q B')→∃ H,TFD P g ⟨args⟩ h H∧Q H :=
  fun vs he hr hq=>⟨h'.den,TFD.intro hf hb he t1 g1.defers (hr.is w1 g1),hq _ (Absb.of w1 s1)⟩
 cases e with
 | ret=>obtain ⟨vs,h1,h2⟩:=k1;exact fin vs (.inl rfl) h1 h2
 | normal=>obtain ⟨vs,h1,h2⟩:=k1;exact fin vs (.inr rfl) h1 h2
 | _=>exact k1.elim
def WD (D:List Deferred) (P:Program) (c:Code) (f:Fr) (h:SH) (K:List Deferred→Exit→Fr→SH→Prop):Prop :=
 ∀ a,h.WF→Sat P h.den→bndA h.den.n a→@Agr ⟨D⟩ f a→∃ D' e f' h' a',K D' e f' h'∧h'.WF∧Sat P h'.den∧bndA h'.den.n a'∧@Agr ⟨D'⟩ f' a'∧TC P c a h.den e a' h'.den
section
variable {D:List Deferred} {f:Fr} {h:SH} {K:List Deferred→Exit→Fr→SH→Prop}
theorem WD.lift {c:Code} (hw:∀ inst:Pend,inst.D=D→@W inst P c f h (K D)):WD D P c f h K:=by
 intro a w s b g
 obtain ⟨e,f',h',a',k1,w1,s1,b1,g1,t1⟩:=hw ⟨D⟩ rfl a w s b g
 exact ⟨D,e,f',h',a',k1,w1,s1,b1,g1,t1⟩
def thenD (P:Program) (y:Code) (K:List Deferred→Exit→Fr→SH→Prop):List Deferred→Exit→Fr→SH→Prop
 | D,.normal,f,h=>WD D P y f h K
 | D,e,f,h=>K D e f h
theorem WD.seq {x y:Code} (hx:WD D P x f h (thenD P y K)):WD D P (.seq x y) f h K:=by
 intro a w s b g
 obtain ⟨D1,e,f1,h1,a1,k1,w1,s1,b1,g1,t1⟩:=hx a w s b g
 cases e with
 | normal =>
  obtain ⟨D2,e,f2,h2,a2,k2,w2,s2,b2,g2,t2⟩:=k1 a1 w1 s1 b1 g1
  exact ⟨D2,e,f2,h2,a2,k2,w2,s2,b2,g2,TC.seq t1 t2⟩
 | _=>exact ⟨D1,_,f1,h1,a1,k1,w1,s1,b1,g1,TC.seq_out t1 (by simp)⟩
theorem thenD_n {y:Code} (hk:WD D P y f h K):thenD P y K D .normal f h:=hk
end
inductive ResTs (fl:List (Nat × Value)):List ResultVar→List Value→Prop
 | nil:ResTs fl [] []
 | cons {t:Tmp} {rs:List ResultVar} {v:Value} {vs:List Value} (hv:findV fl t=some v) (hs:ResTs fl rs vs):ResTs fl (.tmp t::rs) (v::vs)
theorem ResTs.vs {P:Program} {fl:List (Nat × Value)} {h:SH}:∀ {rs:List ResultVar} {vs:List Value},ResTs fl rs vs→ResVs P fl h rs vs:=by
 intro rs vs hr
 induction hr with
 | nil=>exact .nil
 | cons hv _ ih=>exact .cons (.tmp hv) ih
theorem ResTs.run {fn:Func} {D:List Deferred} {fl:List (Nat × Value)} {nt:Nat} {vs:List Value} (hr:ResTs fl fn.results.toList vs) {a:Act} (g:@Agr ⟨D⟩ ⟨fl,nt⟩ a) {h h2:SH} (w2:h2.WF) {ρ ρ2:Env} {W:World} (hok:HOK P.globals.size h2.den ρ2 W) (hag:Agree h.den.n ρ ρ2) (hb:bndA h.den.n a) (hbv:bnd h.den.n (resultOf vs)):(results fn (renA ρ a).tmps).run P W=.ok (ren ρ2 (resultOf vs)) W:=by
 have h1:=@ResVs.is P ⟨D⟩ fn fl nt h2 w2 vs (hr.vs) a g ρ2 W hok
 have h2:renA ρ2 a=renA ρ a:=renA_agree hag hb
 rw [h2] at h1
 exact h1
def endsD (P:Program) (fn:Func) (Q:List Value→Hp→Prop) (D:List Deferred) (e:Exit) (f:Fr) (h:SH):Prop :=
 (e=.ret∨e=.normal)∧∃ vs,ResTs f.l fn.results.toList vs∧∀ B',Absb (P:=P) h B'→match D with
  | []=>Q vs B'
  | [⟨.fn (.func g) ⟨[]⟩,args⟩]=>∃ Q',GF P g∧EXD P g args.toList B' Q'∧∀ B'',Q' B''→Sat P B''→B'.n≤B''.n→Q vs B''
  | _=>False
theorem invoke_ok {g:FuncId} (hg:GF P g) (as:Array Value) (W:World):(invoke (.fn (.func g) #[]) as).run P W=.ok (.enter g as) W:=by
 have hok:=hg.ok
 cases hf:P.funcs[g]? with
 | none=>rw [hf] at hok;cases hok
 | some fn =>
  rw [hf] at hok
  simp only [Option.map_some,Option.some.injEq,Bool.and_eq_true,Bool.not_eq_true',beq_eq_false_iff_ne,ne_eq] at hok
  have hb:fn.body.isNone=false:=by cases hb:fn.body<;>simp_all
  have hname : (fn.name == "runtime.NumGoroutine") = false := by simpa using hok.1
  simp only [invoke,callFunc,Sem.run_bind,run_program,Result.andThen_ok,hf,hname,hb]
  simp
theorem EX.introD {g:FuncId} {fn:Func} {c:Code} {args:List Value} {nt:Nat} {h:Hp} {Q:Value→Hp→Prop} (hf:P.funcs[g]?=some fn) (hb:fn.body=some c) (ht:fn.ntmps=nt) (hn:Nat.ble args.length nt=true)
 (hw:∀ π:Nat→Nat,Sat P h→WD [] P c ⟨enterL 0 args,nt⟩ ⟨h,π,0,[]⟩ (endsD P fn fun vs B'=>Q (resultOf vs) B')):EX P g args h Q:=by
 subst ht
 intro s ha
 have hden:=s.den
 obtain ⟨D,e,f',h',a',⟨he,vs,hr,k1⟩,w1,s1,b1,g1,t1⟩:=hw (SH.of h).π s (enterAct fn ⟨args⟩) s.wf (by show Sat P (SH.of h).den;rw [hden];exact s) (by show bndA (SH.of h).den.n _;rw [hden];exact enterAct_bnd (fun x hx=>ha x (by simpa using hx))) (enter_agr (ble_iff.1 hn))
 have t1:TC P c (enterAct fn ⟨args⟩) (SH.of h).den e a' h'.den:=t1
 rw [hden] at t1
 have k2:=k1 _ (Absb.of w1 s1)
 have hbv:bnd h'.den.n (resultOf vs):=@ResVs.bnd P ⟨D⟩ f'.l f'.nt h' w1 s1 _ vs hr.vs a' b1 g1
 match D,k2,g1 with
 | [],k2,g1=>exact ⟨resultOf vs,h'.den,TF.intro hf hb he t1 g1.defers (fun _ _=>hbv) (@ResVs.is P ⟨[]⟩ fn f'.l f'.nt h' w1 vs hr.vs a' g1),k2⟩
 | [⟨.fn (.func g2) ⟨[]⟩,⟨as⟩⟩],k2,g1 =>
  obtain ⟨Q',hgf,hex,hq⟩:=k2
  have hgd:a'.defers=[⟨.fn (.func g2) #[],⟨as⟩⟩]:=@Agr.defers ⟨_⟩ _ _ g1
  have hba:∀ v∈as,bnd h'.den.n v:=fun v hv=>by
   have:=(b1.2 ⟨.fn (.func g2) #[],⟨as⟩⟩ (by rw [hgd];simp)).2 v (by simpa using hv)
   exact this
  obtain ⟨h2,htfd,q⟩:=hex s1 hba
  have key:∀ ρ W,HOK P.globals.size h ρ W→Calls P g ((⟨args⟩:Array Value).map (ren ρ)) W fun e W'=>∃ ρ',e=.returned (ren ρ' (resultOf vs))∧bnd h2.n (resultOf vs)∧HOK P.globals.size h2 ρ' W'∧Ext h h2 ρ ρ' W W':=by
   intro ρ W hok
   refine calls_of_wp_defers hf hb ?_
   rw [← enterAct_ren]
   refine wp_mono (t1 (enterAct_bnd (fun x hx=>ha x (by simpa using hx))) ρ W hok) ?_
   rintro e' A W' ⟨rfl,ρ',rfl,hb',hok',hE⟩
   have hD:(renA ρ' a').defers=[⟨.fn (.func g2) #[],(⟨as⟩:Array Value).map (ren ρ')⟩]:=by simp [renA,hgd,renD,renT]
   have hL:Leaves P fn (renA ρ' a').tmps (fun e W'=>∃ ρ',e=.returned (ren ρ' (resultOf vs))∧bnd h2.n (resultOf vs)∧HOK P.globals.size h2 ρ' W'∧Ext h h2 ρ ρ' W W') (renA ρ' a').defers .returning W':=by
    rw [hD]
    refine leaves_cons (f:=g2) (args:=(⟨as⟩:Array Value).map (ren ρ')) (by simp) (invoke_ok hgf _ _) ?_
    refine (htfd (fun x hx=>hba x (by simpa using hx)) ρ' W' hok').mono ?_
    rintro e u W2 ⟨rfl,v,ρ2,rfl,hok2,hE2⟩
    refine ⟨_,hr.run (h:=h') g1 (h2:=SH.of h2) (SH.of_wf hok2.gle hok2.lt) (by rw [SH.of_den hok2.lt];exact hok2) hE2.agree hb' hbv,ρ2,rfl,bnd_mono hE2.mono _ hbv,hok2,hE.trans hE2⟩
   rcases he with rfl|rfl<;>exact hL
  obtain ⟨ρ,W,ho⟩:=s1
  obtain ⟨e2,u2,W2,fr2,⟨_,v2,ρ2,_,hok2,hE2⟩,_⟩:=htfd (fun x hx=>hba x (by simpa using hx)) ρ W ho { (default:Frame) with mode:=.returning } [] rfl
  exact ⟨resultOf vs,h2,fun _ ρ W hok=>key ρ W hok,hq h2 q ⟨ρ2,W2,hok2⟩ hE2.mono⟩
end Go.AH
namespace Go.AH
theorem RS.minN [Pend] {P:Program} {ops:Array Oper} {draw:Bool} {rs:List Rk} {l:List Oper} {fl:List (Nat × Value)} {nt:Nat} {h:SH} {K:Fr→SH→Prop} {d:Tmp} {ty:TypeId} {pos:String} {af:Array Edge} {gd:Option (Nat × Bool)} {t t':TypeId} {x y:Operand} {a b:Nat} (hw:wantB ops ⟨some d,.call { callee:=.builtin .min,args:=#[x,y],argTypes:=#[t,t'] },ty,pos,af,gd⟩ ⟨fl,nt⟩=some true) (hd:Nat.blt d nt=true)
 (hx:Fr.ev ⟨fl,nt⟩ x=some (.int .i64 (a:Int))) (hy:Fr.ev ⟨fl,nt⟩ y=some (.int .i64 (b:Int)))
 (hk:RS P ops draw (recP h.k false [] (some [])::rs) l ⟨(d,.int .i64 ((min a b:Nat):Int))::fl,nt⟩ h K):RS P ops draw rs (⟨some d,.call { callee:=.builtin .min,args:=#[x,y],argTypes:=#[t,t'] },ty,pos,af,gd⟩::l) ⟨fl,nt⟩ h K:=by
 refine RS.free hw hd (v:=.int .i64 ((min a b:Nat):Int)) (fun c g H=>tx_two (u:=.int .i64 (a:Int)) (w:=.int .i64 (b:Int)) rfl (fun _ _=>by simp) (g.ev hx) (g.ev hy) (by simp) (by simp) (by simp) fun ev W hu hw'=>?_) (by simp) hk
 have hu:ev x=.int .i64 (a:Int):=hu
 have hw':ev y=.int .i64 (b:Int):=hw'
 have e:(if (b:Int) < (a:Int) then (b:Int) else (a:Int))=((min a b:Nat):Int):=by split<;>omega
 simp only [execOp,resolve,invoke,builtin,Sem.run_bind,Sem.run_pure,Result.andThen_ok,List.map_toArray,List.map_cons,List.map_nil,hu,hw',run_min_int2,e]
end Go.AH
namespace Go.AH
variable {P:Program}
def f1Of (P:Program) (t:TypeId) (i:Nat):Option Nat:=match P.underlying t with
 | some (.struct fs)=>match fs[i]? with
  | some f=>match P.underlying f.type with
   | some d=>bif aggD d then none else some f.offset
   | none=>none
  | none=>none
 | _=>none
class FOne (P:Program) (t:TypeId) (i:Nat) (off:outParam Nat):Prop where
 eq:f1Of P t i=some off
theorem RS.field1 [Pend] {ops:Array Oper} {draw:Bool} {rs:List Rk} {l:List Oper} {fl:List (Nat × Value)} {nt:Nat} {h:SH} {K:Fr→SH→Prop} {d:Tmp} {ty:TypeId} {pos:String} {af:Array Edge} {gd:Option (Nat × Bool)} {t:TypeId} {x:Operand} {i off:Nat} {cs:Array Value} {v:Value} [ho:FOne P t i off] (hw:wantB ops ⟨some d,.field t x i,ty,pos,af,gd⟩ ⟨fl,nt⟩=some true) (hd:Nat.blt d nt=true)
 (hx:Fr.ev ⟨fl,nt⟩ x=some (.agg cs)) (hv:cs[off]?=some v)
 (hk:RS P ops draw (recP h.k false [] none::rs) l ⟨(d,v)::fl,nt⟩ h K):RS P ops draw rs (⟨some d,.field t x i,ty,pos,af,gd⟩::l) ⟨fl,nt⟩ h K:=by
 have h1:=ho.eq
 unfold f1Of at h1
 split at h1
 ·rename_i fs hu
  split at h1
  ·rename_i f hf
   split at h1
   ·rename_i dd hdd
    cases ha:aggD dd with
    | true=>rw [ha] at h1;cases h1
    | false =>
     rw [ha] at h1
     simp only [cond_false,Option.some.injEq] at h1
     subst h1
     exact RS.still (nv:=none) hw hd (fun a g H=>TX.field1 (P:=P) (o:=⟨some d,.field t x i,ty,pos,af,gd⟩) rfl hu hf hdd ha (g.ev hx) hv) trivial hk
   ·cases h1
  ·cases h1
 ·cases h1
end Go.AH
namespace Go.AH
variable {P:Program}
section
variable {ops:Array Oper} {draw:Bool} {rs:List Rk} {l:List Oper} {fl:List (Nat × Value)} {nt:Nat} {h:SH} {K:Fr→SH→Prop} {d:Tmp} {ty:TypeId} {pos:String} {af:Array Edge} {gd:Option (Nat × Bool)}
theorem RS.indexAddrArr [Pend] {t e:TypeId} {x y:Operand} {b off n sz m:Nat} {k:IntKind} [hu:TyU P t (.array n e)] [hs:TySz P e sz] (hw:wantB ops ⟨some d,.indexAddr t x y,ty,pos,af,gd⟩ ⟨fl,nt⟩=some true) (hd:Nat.blt d nt=true) (hx:Fr.ev ⟨fl,nt⟩ x=some (.pointer (some ⟨b,off,none⟩)))
 (hy:Fr.ev ⟨fl,nt⟩ y=some (.int k (m:Int))) (hm:m < n)
 (hk:RS P ops draw (recP h.k false [] none::rs) l ⟨(d,.pointer (some ⟨b,off+m * sz,none⟩))::fl,nt⟩ h K):RS P ops draw rs (⟨some d,.indexAddr t x y,ty,pos,af,gd⟩::l) ⟨fl,nt⟩ h K:=by
 rw [← add_plain] at hk
 have hsz:=hs.eq
 cases hin:P.info? e with
 | none=>rw [hin] at hsz;cases hsz
 | some ti =>
  rw [hin] at hsz
  have h4:ti.size=sz:=by simpa using hsz
  subst h4
  refine RS.still (nv:=none) hw hd (fun a g H=>?_) trivial hk
  have:=TX.indexAddrA (P:=P) (o:=⟨some d,.indexAddr t x y,ty,pos,af,gd⟩) (ev:=a.eval) (h:=H) rfl hu.eq hin (g.ev hx) (g.ev hy) (by omega) (by omega)
  rw [Int.toNat_natCast] at this
  exact this
theorem RS.quoN [Pend] {t yt:TypeId} {x y:Operand} {k:IntKind} {a b:Nat} (hw:wantB ops ⟨some d,.binOp .quo t x y yt,ty,pos,af,gd⟩ ⟨fl,nt⟩=some true) (hd:Nat.blt d nt=true)
 (hx:Fr.ev ⟨fl,nt⟩ x=some (.int k (a:Int))) (hy:Fr.ev ⟨fl,nt⟩ y=some (.int k (b:Int))) (h0:0 < b) (hf:k.wrap ((a / b:Nat):Int)=((a / b:Nat):Int))
 (hk:RS P ops draw (recP h.k false [] (some [])::rs) l ⟨(d,.int k ((a / b:Nat):Int))::fl,nt⟩ h K):RS P ops draw rs (⟨some d,.binOp .quo t x y yt,ty,pos,af,gd⟩::l) ⟨fl,nt⟩ h K:=by
 refine RS.quo hw hd hx hy (by omega) ?_
 rw [show (a:Int).tdiv (b:Int)=((a / b:Nat):Int) from rfl,hf]
 exact hk
theorem RS.mulN [Pend] {t yt:TypeId} {x y:Operand} {k:IntKind} {a b:Nat} (hw:wantB ops ⟨some d,.binOp .mul t x y yt,ty,pos,af,gd⟩ ⟨fl,nt⟩=some true) (hd:Nat.blt d nt=true)
 (hx:Fr.ev ⟨fl,nt⟩ x=some (.int k (a:Int))) (hy:Fr.ev ⟨fl,nt⟩ y=some (.int k (b:Int))) (hf:k.wrap ((a * b:Nat):Int)=((a * b:Nat):Int))
 (hk:RS P ops draw (recP h.k false [] (some [])::rs) l ⟨(d,.int k ((a * b:Nat):Int))::fl,nt⟩ h K):RS P ops draw rs (⟨some d,.binOp .mul t x y yt,ty,pos,af,gd⟩::l) ⟨fl,nt⟩ h K :=
 RS.bin hw hd hx hy (by simp only [binI];rw [← Int.natCast_mul,hf]) hk
def byteAt (s:ByteArray) (n:Nat):Int:=match s[n]? with
 | some b=>(b.toNat:Int)
 | none=>0
theorem RS.indexAt [Pend] {t:TypeId} {x y:Operand} {s:ByteArray} {k:IntKind} {n:Nat} [hu:TyU P t .string] (hw:wantB ops ⟨some d,.index t x y,ty,pos,af,gd⟩ ⟨fl,nt⟩=some true) (hd:Nat.blt d nt=true) (hx:Fr.ev ⟨fl,nt⟩ x=some (.string s)) (hy:Fr.ev ⟨fl,nt⟩ y=some (.int k (n:Int))) (hn:n < s.size)
 (hk:RS P ops draw (recP h.k false [] (some [])::rs) l ⟨(d,.int .u8 (byteAt s n))::fl,nt⟩ h K):RS P ops draw rs (⟨some d,.index t x y,ty,pos,af,gd⟩::l) ⟨fl,nt⟩ h K:=by
 refine RS.indexStr hw hd hx hy rfl hn ?_
 have:byteAt s n=((s[n]'hn).toNat:Int):=by unfold byteAt;simp [hn]
 rw [← this];exact hk
def u8s (d:List Int):List Value:=d.map (Value.int .u8)
end
section
variable {ops:Array Oper} {draw:Bool} {rs:List Rk} {l:List Oper} {fl:List (Nat × Value)} {nt:Nat} {B:Hp} {π:Nat→Nat} {k:Nat} {hl:List (Nat × Option Blk)} {K:Fr→SH→Prop} {d:Tmp} {ty:TypeId} {pos:String} {af:Array Edge} {gd:Option (Nat × Bool)}
end
end Go.AH
namespace Go.AH
variable {P:Program}
inductive StkRow (h:Hp) (e:TypeId):Option Addr→Nat→List Value→Prop
 | nil:StkRow h e none 0 []
 | row {r cap:Nat} {vs t:List Value} (hm:h.m r=some ⟨⟨vs++t⟩,e⟩) (hr:rwM≤r) (hc:cap=capOf 1∨(cap=vs.length+t.length∧cap < capMark)):StkRow h e (some ⟨r,0,none⟩) cap vs
section
variable {ops:Array Oper} {rs:List Rk} {l:List Oper} {fl:List (Nat × Value)} {nt:Nat} {B:Hp} {K:Fr→SH→Prop} {d:Tmp} {ty:TypeId} {pos:String} {af:Array Edge} {gd:Option (Nat × Bool)}
end
end Go.AH
namespace Go.AH
variable {P:Program}
def recX (k blk:Nat):Rk:={ vb:=false,vl:=[],k:=k,k':=k,w:=[],wb:=false,nv:=none,cn:=some [],sb:=some fun id=>id == blk }
def recGX (k j:Nat):Rk:={ vb:=true,vl:=[],k:=k,k':=k+1,w:=[],wb:=false,nv:=some [k],cn:=none,eb:=some fun id=>id == j }
def sideOK (j b:Nat):List Rk→Prop
 | []=>True
 | r::rs=>(r.eb=none∨r.eb=some fun id=>id == j)∧(r.sb=none∨r.sb=some fun id=>id == b)∧sideOK j b rs
theorem sideOK_all {j b:Nat} (hne:j≠b):∀ {rs:List Rk},sideOK j b rs→∀ x∈rs,∀ y∈rs,SideX x y:=by
 intro rs h x hx y hy e q he hq id hid
 have key:∀ {rs:List Rk},sideOK j b rs→∀ x∈rs,(x.eb=none∨x.eb=some fun id=>id == j)∧(x.sb=none∨x.sb=some fun id=>id == b):=by
  intro rs
  induction rs with
  | nil=>intro _ x hx;cases hx
  | cons r rs ih =>
   intro h x hx
   rcases List.mem_cons.1 hx with e|e
   ·subst e;exact ⟨h.1,h.2.1⟩
   ·exact ih h.2.2 x e
 have h1:=(key h x hx).1
 have h2:=(key h y hy).2
 rw [he] at h1
 rw [hq] at h2
 rcases h1 with h1|h1
 ·cases h1
 ·rcases h2 with h2|h2
  ·cases h2
  ·injection h1 with h1
   injection h2 with h2
   subst h1;subst h2
   have hid:id=j:=by simpa using hid
   subst hid
   simp [hne]
section
variable {ops:Array Oper} {draw:Bool} {rs:List Rk} {l:List Oper} {fl:List (Nat × Value)} {nt:Nat} {B:Hp} {π:Nat→Nat} {k:Nat} {hl:List (Nat × Option Blk)} {K:Fr→SH→Prop} {d:Tmp} {ty:TypeId} {pos:String} {af:Array Edge} {gd:Option (Nat × Bool)}
theorem RS.load1X [Pend] {t:TypeId} {x:Operand} {blk off:Nat} {cs:List Value} {e:TypeId} {v:Value} [hu:TyOne P t] (hw:wantB ops ⟨some d,.load t x,ty,pos,af,gd⟩ ⟨fl,nt⟩=some true) (hd:Nat.blt d nt=true) (hx:Fr.ev ⟨fl,nt⟩ x=some (.pointer (some ⟨blk,off,none⟩)))
 (hb:B.m blk=some ⟨⟨cs⟩,e⟩) (hlt:blk < B.n) (hv:cs[off]?=some v)
 (hk:RS P ops draw (recX k blk::rs) l ⟨(d,v)::fl,nt⟩ ⟨B,π,k,hl⟩ K):RS P ops draw rs (⟨some d,.load t x,ty,pos,af,gd⟩::l) ⟨fl,nt⟩ ⟨B,π,k,hl⟩ K:=by
 have h1:=hu.eq
 cases ht:P.underlying t with
 | none=>rw [ht] at h1;cases h1
 | some td =>
  rw [ht] at h1
  have h2:aggD td=false:=by simpa using h1
  have heff:∀ id,effR B.n π (recX k blk) id=false:=by
   intro id
   unfold effR recX
   by_cases h:id < B.n
   ·simp [h]
   ·simp only [h,if_false]
    cases hi:idx π k id with
    | none=>rfl
    | some i=>have:=(idx_some hi).1;simp [memL,this]
  refine RS.step hw hd (h':=⟨B,π,k,hl⟩) (v:=v) (r:=recX k blk) ⟨fun w a g=>?_,fun w=>w,rfl,rfl,rfl,rfl,Nat.le_refl _,fun _ _ _=>rfl,(fun _ id he=>by rw [heff] at he;cases he),fun _ _ _ hn=>hn,trivial,(fun _ id b he=>by rw [heff] at he;cases he)⟩ hk
  have hm:((⟨B,π,k,hl⟩:SH).den.hide (hidR B.n π (recX k blk))).m blk=some ⟨⟨cs⟩,e⟩:=by
   have:hidR B.n π (recX k blk) blk=false:=by simp [hidR,recX,hlt]
   simp only [Hp.hide,this]
   exact SH.m_base w hb
  exact TX.load1 (P:=P) (o:=⟨some d,.load t x,ty,pos,af,gd⟩) (ev:=a.eval) rfl ht h2 (g.ev hx) rfl hm (by show cs.toArray[off]?=_;rw [List.getElem?_toArray];exact hv)
theorem SH.kill_base {h:SH} (_w:h.WF) {i:Nat} (hi:i < h.base.n):h.den.kill i=({ h with base:=h.base.kill i }:SH).den:=by
 refine Hp.eq (fun id=>?_) rfl
 simp only [Hp.kill,SH.den]
 by_cases e:id=i
 ·subst e;simp [hi]
 ·simp only [if_neg e]
end
end Go.AH
namespace Go.AH
variable {P:Program}
section
variable {ops:Array Oper} {rs:List Rk} {l:List Oper} {fl:List (Nat × Value)} {nt:Nat} {K:Fr→SH→Prop} {d:Tmp} {ty:TypeId} {pos:String} {af:Array Edge} {gd:Option (Nat × Bool)}
end
end Go.AH
namespace Go.AH
variable {P:Program}
section
variable {ops:Array Oper} {rs:List Rk} {l:List Oper} {fl:List (Nat × Value)} {nt:Nat} {K:Fr→SH→Prop} {d:Tmp} {ty:TypeId} {pos:String} {af:Array Edge} {gd:Option (Nat × Bool)}
end
end Go.AH
namespace Go.AH
variable {P:Program}
section
variable {ops:Array Oper} {draw:Bool} {rs:List Rk} {l:List Oper} {fl:List (Nat × Value)} {nt:Nat} {B:Hp} {π:Nat→Nat} {k:Nat} {hl:List (Nat × Option Blk)} {K:Fr→SH→Prop} {d:Tmp} {ty:TypeId} {pos:String} {af:Array Edge} {gd:Option (Nat × Bool)}
theorem Nm_base {n0:Nat} {π:Nat→Nat} {v:Value} (hv:bnd n0 v):NmO n0 π (some []) v:=ment_of_bnd (n:=n0) (fun _ hi=>.inl hi) v hv
theorem RS.moveX [Pend] {x:Operand} {v:Value} (hw:wantB ops ⟨some d,.move x,ty,pos,af,gd⟩ ⟨fl,nt⟩=some true) (hd:Nat.blt d nt=true) (hx:Fr.ev ⟨fl,nt⟩ x=some v) (hv:bnd B.n v)
 (hk:RS P ops draw (recP k false [] (some [])::rs) l ⟨(d,v)::fl,nt⟩ ⟨B,π,k,hl⟩ K):RS P ops draw rs (⟨some d,.move x,ty,pos,af,gd⟩::l) ⟨fl,nt⟩ ⟨B,π,k,hl⟩ K :=
 RS.still (nv:=some []) (h:=⟨B,π,k,hl⟩) hw hd (fun a g H=>by rw [← g.ev hx];exact TX.move rfl) (Nm_base hv) hk
theorem RS.nilCheckX [Pend] {x:Operand} {A:Addr} (hw:wantB ops ⟨some d,.nilCheck x,ty,pos,af,gd⟩ ⟨fl,nt⟩=some true) (hd:Nat.blt d nt=true) (hx:Fr.ev ⟨fl,nt⟩ x=some (.pointer (some A))) (hv:A.block < B.n)
 (hk:RS P ops draw (recP k false [] (some [])::rs) l ⟨(d,.pointer (some A))::fl,nt⟩ ⟨B,π,k,hl⟩ K):RS P ops draw rs (⟨some d,.nilCheck x,ty,pos,af,gd⟩::l) ⟨fl,nt⟩ ⟨B,π,k,hl⟩ K :=
 RS.still (nv:=some []) (h:=⟨B,π,k,hl⟩) hw hd (fun a g H=>by
  have:=TX.nilCheck (P:=P) (o:=⟨some d,.nilCheck x,ty,pos,af,gd⟩) (ev:=a.eval) (h:=H) rfl (g.ev hx)
  rw [g.ev hx] at this;exact this) (Nm_base (by simpa using hv)) hk
theorem RS.fieldAddrX [Pend] {t:TypeId} {x:Operand} {i off:Nat} {blk o0:Nat} [ho:FOff P t i off] (hw:wantB ops ⟨some d,.fieldAddr t x i,ty,pos,af,gd⟩ ⟨fl,nt⟩=some true) (hd:Nat.blt d nt=true) (hx:Fr.ev ⟨fl,nt⟩ x=some (.pointer (some ⟨blk,o0,none⟩))) (hv:blk < B.n)
 (hk:RS P ops draw (recP k false [] (some [])::rs) l ⟨(d,.pointer (some ⟨blk,o0+off,none⟩))::fl,nt⟩ ⟨B,π,k,hl⟩ K):RS P ops draw rs (⟨some d,.fieldAddr t x i,ty,pos,af,gd⟩::l) ⟨fl,nt⟩ ⟨B,π,k,hl⟩ K:=by
 refine RS.still (nv:=some []) (h:=⟨B,π,k,hl⟩) hw hd (fun a g H=>?_) (Nm_base (by simpa using hv)) hk
 have h1:=ho.eq
 unfold offOf at h1
 split at h1
 ·rename_i fs hu
  split at h1
  ·rename_i f hf
   split at h1
   ·rename_i fi hi
    cases hz:Nat.beq fi.size 0 with
    | true=>rw [hz] at h1;cases h1
    | false =>
     rw [hz] at h1
     simp only [cond_false,Option.some.injEq] at h1
     have:=TX.fieldAddr (P:=P) (o:=⟨some d,.fieldAddr t x i,ty,pos,af,gd⟩) (ev:=a.eval) (h:=H) rfl hu hf hi (fun e=>by rw [e] at hz;cases hz) (g.ev hx)
     rw [h1,add_eq] at this
     cases hb:Nat.beq off 0 with
     | true=>have:=Nat.eq_of_beq_eq_true hb;subst this;rw [hb] at *;exact this
     | false=>rw [hb] at this;exact this
   ·cases h1
  ·cases h1
 ·cases h1
theorem RS.load1BX [Pend] {t:TypeId} {x:Operand} {blk off:Nat} {cs:List Value} {e:TypeId} {v:Value} [hu:TyOne P t] (hw:wantB ops ⟨some d,.load t x,ty,pos,af,gd⟩ ⟨fl,nt⟩=some true) (hd:Nat.blt d nt=true) (hx:Fr.ev ⟨fl,nt⟩ x=some (.pointer (some ⟨blk,off,none⟩)))
 (hb:B.m blk=some ⟨⟨cs⟩,e⟩) (hlt:blk < B.n) (hv:cs[off]?=some v) (hf:bnd B.n v)
 (hk:RS P ops draw (recP k true [] (some [])::rs) l ⟨(d,v)::fl,nt⟩ ⟨B,π,k,hl⟩ K):RS P ops draw rs (⟨some d,.load t x,ty,pos,af,gd⟩::l) ⟨fl,nt⟩ ⟨B,π,k,hl⟩ K:=by
 have h1:=hu.eq
 cases ht:P.underlying t with
 | none=>rw [ht] at h1;cases h1
 | some td =>
  rw [ht] at h1
  have h2:aggD td=false:=by simpa using h1
  refine RS.step hw hd (One.reads (h:=⟨B,π,k,hl⟩) (vb:=true) (vl:=[]) (nv:=some []) (fun a g H hs=>?_) (Nm_base hf)) hk
  exact TX.load1 (P:=P) (o:=⟨some d,.load t x,ty,pos,af,gd⟩) (ev:=a.eval) rfl ht h2 (g.ev hx) rfl (b:=⟨⟨cs⟩,e⟩) (by show H.m blk=_;rw [hs.b rfl blk hlt];exact hb) (by show cs.toArray[off]?=_;rw [List.getElem?_toArray];exact hv)
end
end Go.AH
namespace Go.AH
variable {P:Program}
theorem SH.WF.grow {h:SH} (w:h.WF) (l:List (Nat × Option Blk)):∀ d,({ h with k:=h.k+d,l:=l }:SH).WF:=by
 intro d
 induction d with
 | zero=>exact w.setL l
 | succ d ih=>exact ih.push l
def rowsOf (π:Nat→Nat) (H:Hp):Nat→List (Nat × Option Blk)
 | 0=>[]
 | k+1=>(k,H.m (π k))::rowsOf π H k
theorem rowsOf_at (π:Nat→Nat) (H:Hp):∀ k i,i < k→lookB (rowsOf π H k) i=H.m (π i):=by
 intro k
 induction k with
 | zero=>intro i hi;omega
 | succ k ih =>
  intro i hi
  rw [rowsOf,look_cons]
  by_cases e:k=i
  ·subst e;rw [if_pos rfl]
  ·rw [if_neg e];exact ih i (by omega)
theorem SH.part {h:SH} (w:h.WF) {H:Hp} (hle:h.den.n≤H.n) (hsv:∀ i b,i < h.den.n→H.m i=some b→∃ c,h.den.m i=some c) (hdom:∀ i b,H.m i=some b→i < H.n) (hold:∀ i,i < h.base.n→H.m i=h.base.m i) :
 ∃ d,H.n=h.den.n+d∧({ base:=h.base,π:=h.π,k:=h.k+d,l:=rowsOf h.π H (h.k+d) }:SH).den=H∧({ base:=h.base,π:=h.π,k:=h.k+d,l:=rowsOf h.π H (h.k+d) }:SH).WF:=by
 obtain ⟨D,hD⟩:∃ D,H.n=h.den.n+D:=⟨H.n - h.den.n,by omega⟩
 refine ⟨D,hD,?_,w.grow _ _⟩
 have hn:h.π (h.k+D)=H.n:=by rw [w.mono,hD];rfl
 refine Hp.eq (fun id=>?_) hn
 simp only [SH.den]
 by_cases hlt:id < h.base.n
 ·rw [if_pos hlt,hold id hlt]
 ·rw [if_neg hlt]
  cases hi:idx h.π (h.k+D) id with
  | some i =>
   obtain ⟨g1,g2⟩:=idx_some hi
   show lookB (rowsOf h.π H (h.k+D)) i=H.m id
   rw [rowsOf_at _ _ _ _ g1,g2]
  | none =>
   show none=H.m id
   cases hm:H.m id with
   | none=>rfl
   | some b =>
    exfalso
    have wg:=w.grow [] D
    have at':∀ i,i < h.k+D→h.π i≠id:=by
     intro i hlti e
     have:=idx_at (π:=h.π) (k:=h.k+D) wg.inj hlti
     rw [e,hi] at this
     cases this
    by_cases hl2:id < h.den.n
    ·obtain ⟨c,hc⟩:=hsv id b hl2 hm
     simp only [SH.den] at hc
     rw [if_neg hlt] at hc
     cases hj:idx h.π h.k id with
     | none=>rw [hj] at hc;cases hc
     | some j =>
      obtain ⟨q1,q2⟩:=idx_some hj
      exact at' j (by omega) q2
    ·have h3:=hdom id b hm
     have h4:=w.mono (id - h.den.n)
     refine at' (h.k+(id - h.den.n)) (by omega) ?_
     rw [h4]
     show h.den.n+(id - h.den.n)=id
     omega
def recY (k k':Nat):Rk:={ vb:=true,vl:=List.range k,k:=k,k':=k',w:=List.range k,wb:=false,nv:=none,cn:=none }
theorem hidY {n0:Nat} {π:Nat→Nat} {k k' id:Nat} (h:id < n0∨(idx π k' id).isSome=true):hidR n0 π (recY k k') id=false:=by
 unfold hidR recY
 by_cases hlt:id < n0
 ·simp [hlt]
 ·rcases h with h|h
  ·exact absurd h hlt
  ·simp only [hlt,if_false]
   cases hi:idx π k' id with
   | none=>rw [hi] at h;cases h
   | some i =>
    simp only
    by_cases hik:k≤i
    ·simp [hik]
    ·have:memL i (List.range k)=true:=memL_iff.2 (List.mem_range.2 (by omega))
     simp [this]
theorem effY {n0:Nat} {π:Nat→Nat} {k k' id:Nat}:effR n0 π (recY k k') id=true↔¬ id < n0∧(idx π k' id).isSome=true:=by
 unfold effR recY
 by_cases hlt:id < n0
 ·simp [hlt]
 ·simp only [hlt,if_false]
  cases hi:idx π k' id with
  | none=>simp
  | some i =>
   simp only [Option.isSome_some,not_false_eq_true,and_self,iff_true]
   by_cases hik:k≤i
   ·simp [hik]
   ·have:memL i (List.range k)=true:=memL_iff.2 (List.mem_range.2 (by omega))
    simp [this]
section
variable {ops:Array Oper} {draw:Bool} {rs:List Rk} {l:List Oper} {fl:List (Nat × Value)} {nt:Nat} {K:Fr→SH→Prop} {d:Tmp} {ty:TypeId} {pos:String} {af:Array Edge} {gd:Option (Nat × Bool)}
theorem RS.stepD [Pend] {o:Oper} {f:Fr} {h:SH} (hw:wantB ops o f=some true) (hd:okDst f.nt o.dst=true)
 (h1:∀ a,Agr f a→h.WF→Sat P h.den→bndA h.den.n a→(∀ x∈o.op.operands,okOp P.globals.size x)→∃ v h' r,One P o f h v h' r∧(r.st=none∧(h'.WF→Sat P h'.den→∀ q,r.kp=some q→StC h'.den q.1 q.2.1 q.2.2))∧RS P ops draw (r::rs) l (f.put o.dst v) h' K):RS P ops draw rs (o::l) f h K:=by
 intro xs a0 h0 a p
 have hso:ops[xs.length]?=some o:=by
  rw [← Array.getElem?_toList,← p.os,List.getElem?_append_right (by simp)];simp
 obtain ⟨v,h',r,hone,hp,hk⟩:=h1 a p.agr p.wf p.sat p.bnd (okOpsB_ok p.oks hso)
 exact RS.stepG hw hd hone hp.1 hp.2 hk xs a0 h0 a p
theorem tx_callV [Pend] {g0:FuncId} {c:Operand} {xs:Array Operand} {ts:Array TypeId} {vs:List Value} {v:Value} {a:Act} {H H':Hp} [hg:GF P g0] (g:Agr ⟨fl,nt⟩ a) (hc:Fr.ev ⟨fl,nt⟩ c=some (.func (.func g0) #[] #[])) (hx:evAll fl nt xs.toList=some vs) (ht:TF P g0 ⟨vs⟩ H v H') :
 TX P ⟨some d,.call { callee:=.value c,args:=xs,argTypes:=ts },ty,pos,af,gd⟩ a.eval H v H':=by
 have hok:=hg.ok
 cases hf:P.funcs[g0]? with
 | none=>rw [hf] at hok;cases hok
 | some fn =>
  rw [hf] at hok
  simp only [Option.map_some,Option.some.injEq,Bool.and_eq_true,Bool.not_eq_true'] at hok
  refine TX.call rfl (f:=g0) (first:=#[]) (captured:=#[]) (g.ev hc) hf hok.1 (by cases hb:fn.body<;>simp_all) ?_
  have:((#[]++xs.map a.eval)++#[]:Array Value)=⟨vs⟩:=by
   apply Array.ext'
   simp [evAll_ok g hx]
  rw [this];exact ht
theorem RS.callY [Pend] {h:SH} {g0:FuncId} {c:Operand} {xs:Array Operand} {ts:Array TypeId} {vs:List Value} [hg:GF P g0] (hw:wantB ops ⟨some d,.call { callee:=.value c,args:=xs,argTypes:=ts },ty,pos,af,gd⟩ ⟨fl,nt⟩=some true) (hd:Nat.blt d nt=true)
 (hc:Fr.ev ⟨fl,nt⟩ c=some (.func (.func g0) #[] #[])) (hx:evAll fl nt xs.toList=some vs) (ht:∀ B',h.den=B'→Absb (P:=P) h B'→∃ Q,EX P g0 vs B' Q∧(∀ v H',Q v H'→∀ i,i < h.base.n→H'.m i=B'.m i) ∧
  ∀ v H' k' l',Q v H'→Sat P H'→B'.n≤H'.n→({ base:=h.base,π:=h.π,k:=k',l:=l' }:SH).den=H'→({ base:=h.base,π:=h.π,k:=k',l:=l' }:SH).WF→h.k≤k'→RS P ops draw (recY h.k k'::rs) l ⟨(d,v)::fl,nt⟩ { base:=h.base,π:=h.π,k:=k',l:=l' } K) :
 RS P ops draw rs (⟨some d,.call { callee:=.value c,args:=xs,argTypes:=ts },ty,pos,af,gd⟩::l) ⟨fl,nt⟩ h K:=by
 refine RS.stepD hw hd fun a g w s b hk=>?_
 obtain ⟨Q,he,hold,hq⟩:=ht _ rfl (Absb.of w s)
 have hgn:P.globals.size≤h.den.n:=by obtain ⟨ρ,W,ho⟩:=s;exact ho.gn
 obtain ⟨v,H',htf,q⟩:=he s (evAll_bnd g hgn b (fun x hx'=>hk x (by simp [Op.operands,Call.operands] at hx' ⊢;first|exact hx'|exact .inr hx'|exact .inl hx')) hx)
 have htx:=fun {a:Act} (g:Agr ⟨fl,nt⟩ a)=>tx_callV (ty:=ty) (pos:=pos) (af:=af) (gd:=gd) (d:=d) (ts:=ts) g hc hx htf
 have s1:=(TX.sat (htx g) hk s b).1
 obtain ⟨m1,m2⟩:=TX.more (htx g) hk s b
 have hbase:∀ i,i < h.base.n→H'.m i=h.base.m i:=fun i hi=>by rw [hold v H' q i hi];simp only [SH.den];rw [if_pos hi]
 obtain ⟨dd,_,hden,hwf⟩:=SH.part w m1 m2 s1.dom hbase
 have hpi:∀ {id:Nat} {bk:Blk},H'.m id=some bk→id < h.base.n∨(idx h.π (h.k+dd) id).isSome=true:=by
  intro id bk hb
  by_cases hlt:id < h.base.n
  ·exact .inl hlt
  ·right
   rw [← hden] at hb
   simp only [SH.den] at hb
   rw [if_neg hlt] at hb
   cases hi:idx h.π (h.k+dd) id with
   | none=>rw [hi] at hb;cases hb
   | some i=>rfl
 have hpi0:∀ {id:Nat} {bk:Blk},h.den.m id=some bk→id < h.base.n∨(idx h.π (h.k+dd) id).isSome=true:=by
  intro id bk hb
  by_cases hlt:id < h.base.n
  ·exact .inl hlt
  ·right
   simp only [SH.den] at hb
   rw [if_neg hlt] at hb
   cases hi:idx h.π h.k id with
   | none=>rw [hi] at hb;cases hb
   | some i =>
    obtain ⟨g1,g2⟩:=idx_some hi
    have:=idx_at (π:=h.π) (k:=h.k+dd) hwf.inj (show i < h.k+dd by omega)
    rw [g2] at this
    rw [this];rfl
 have hh0:h.den.hide (hidR h.base.n h.π (recY h.k (h.k+dd)))=h.den:=by
  refine Hp.eq (fun id=>?_) rfl
  simp only [Hp.hide]
  split
  ·rename_i he
   cases hb:h.den.m id with
   | none=>rfl
   | some bk=>rw [hidY (hpi0 hb)] at he;cases he
  ·rfl
 have hh1:H'.hide (hidR h.base.n h.π (recY h.k (h.k+dd)))=H':=by
  refine Hp.eq (fun id=>?_) rfl
  simp only [Hp.hide]
  split
  ·rename_i he
   cases hb:H'.m id with
   | none=>rfl
   | some bk=>rw [hidY (hpi hb)] at he;cases he
  ·rfl
 refine ⟨v,_,recY h.k (h.k+dd),⟨fun _ a g=>?_,fun _=>hwf,rfl,rfl,rfl,rfl,Nat.le_add_right _ _,fun _ id he=>?_,fun _ id he=>?_,fun _ id hid hn=>?_,trivial,fun _ id bk _ _ u _=>trivial⟩,⟨rfl,fun _ _ q hq=>by cases hq⟩,hq v H' (h.k+dd) _ q s1 m1 hden hwf (Nat.le_add_right _ _)⟩
 ·rw [hden,hh0,hh1];exact htx g
 ·rw [hden]
  by_cases hlt:id < h.base.n
  ·rw [hbase id hlt];simp only [SH.den];rw [if_pos hlt]
  ·have hno:¬ (idx h.π (h.k+dd) id).isSome=true:=fun e=>by
    have:effR h.base.n h.π (recY h.k (h.k+dd)) id=true:=effY.2 ⟨hlt,e⟩
    rw [this] at he;cases he
   cases hb:H'.m id with
   | some bk => rcases hpi hb with h1 | h1
                ·exact absurd h1 hlt
                ·exact absurd h1 hno
   | none =>
    cases hb0:h.den.m id with
    | none=>rfl
    | some bk => rcases hpi0 hb0 with h1 | h1
                 ·exact absurd h1 hlt
                 ·exact absurd h1 hno
 ·exact hidY (.inr (effY.1 he).2)
 ·rw [hden]
  cases hb:H'.m id with
  | none=>rfl
  | some bk =>
   obtain ⟨c,hc⟩:=m2 id bk hid hb
   have hn:h.den.m id=none:=hn
   rw [hn] at hc;cases hc
end
end Go.AH
namespace Go.AH
variable {P:Program}
def freeOne (m j:Nat):Nat→List (Nat × Nat)
 | 0=>[]
 | i+1=>bif pairsOne.bitN m i then freeOne m j i else (i,j)::freeOne m j i
def freeAll:List Nat→Nat→List (Nat × Nat)
 | [],_=>[]
 | m::ms,j=>freeOne m j j++freeAll ms (j+1)
noncomputable def freeP (P:Program) (ops:Array Oper):Option (List (Nat × Nat)):=match planD P ops with
 | some l=>some (freeAll (l.map (·.2)) 0)
 | none=>none
theorem mem_freeOne {m j i:Nat}:∀ {n:Nat},i < n→pairsOne.bitN m i=false→(i,j)∈freeOne m j n:=by
 intro n
 induction n with
 | zero=>intro h;omega
 | succ n ih =>
  intro h hb
  rw [freeOne]
  by_cases e:i=n
  ·subst e;rw [hb];simp
  ·have:=ih (by omega) hb
   cases pairsOne.bitN m n with
   | true=>exact this
   | false=>exact List.mem_cons_of_mem _ this
theorem mem_freeAll {i:Nat}:∀ {ms:List Nat} {j0 q m:Nat},ms[q]?=some m→i < j0+q→pairsOne.bitN m i=false→(i,j0+q)∈freeAll ms j0:=by
 intro ms
 induction ms with
 | nil=>intro j0 q m h;simp at h
 | cons m0 ms ih =>
  intro j0 q m h hi hb
  rw [freeAll]
  cases q with
  | zero =>
   simp only [List.getElem?_cons_zero,Option.some.injEq] at h
   subst h
   exact List.mem_append.2 (.inl (mem_freeOne (by simpa using hi) hb))
  | succ q =>
   have:=ih (j0:=j0+1) (q:=q) (by simpa using h) (by omega) hb
   rw [show j0+1+q=j0+(q+1) by omega] at this
   exact List.mem_append.2 (.inr this)
theorem pairsOne_free {m:Nat} {y:Rk}:∀ {l:List Rk} {k:Nat},(∀ i x,l[i]?=some x→pairsOne.bitN m (k+i)=false→pairR x y=true)→pairsOne m y l k=true:=by
 intro l
 induction l with
 | nil=>intro k _;rfl
 | cons x l ih =>
  intro k h
  simp only [pairsOne,Bool.and_eq_true,Bool.or_eq_true]
  refine ⟨?_,ih fun i z hz hb=>h (i+1) z (by simpa using hz) (by rw [show k+(i+1)=k+1+i by omega];exact hb)⟩
  cases hb:pairsOne.bitN m k with
  | true=>exact .inl rfl
  | false=>exact .inr (h 0 x rfl hb)
theorem pairsAll_free {all:List Rk}:∀ {l:List Rk} {ms:List Nat} {j:Nat},(∀ i y m,l[i]?=some y→ms[i]?=some m→pairsOne m y (all.take (j+i)) 0=true)→pairsAll all l ms j=true:=by
 intro l
 induction l with
 | nil=>intro ms j _;cases ms<;>rfl
 | cons z l ih =>
  intro ms j h
  cases ms with
  | nil=>rfl
  | cons m ms =>
   simp only [pairsAll,Bool.and_eq_true]
   exact ⟨h 0 z m rfl rfl,ih fun i y m' hy hm=>by have:=h (i+1) y m' (by simpa using hy) (by simpa using hm);rwa [show j+(i+1)=j+1+i by omega] at this⟩
def pairsOK (rs:List Rk):List (Nat × Nat)→Prop
 | []=>True
 | (i,j)::L=>(∀ x y,rs[i]?=some x→rs[j]?=some y→pairR x y=true)∧pairsOK rs L
theorem pairsOK_mem {rs:List Rk} {i j:Nat}:∀ {L:List (Nat × Nat)},pairsOK rs L→(i,j)∈L→∀ x y,rs[i]?=some x→rs[j]?=some y→pairR x y=true:=by
 intro L
 induction L with
 | nil=>intro _ h;cases h
 | cons p L ih =>
  intro h hm
  rcases List.mem_cons.1 hm with e|e
  ·subst e;exact h.1
  ·exact ih h.2 e
theorem RS.nilP [Pend] {ops:Array Oper} {rs:List Rk} {f:Fr} {h:SH} {K:Fr→SH→Prop} (hm:P.follows .mixedOrders=true) (L:List (Nat × Nat)) (hL:freeP P ops=some L) (hp:pairsOK rs.reverse L) (hs:plainR rs=true) (hk:K f h):RS P ops true rs [] f h K:=by
 refine RS.nilX hm (fun _=>?_) (fun _=>plainR_side hs) hk (plainR_st hs)
 unfold freeP at hL
 unfold finalChk
 cases hpl:planD P ops with
 | none=>rw [hpl] at hL;cases hL
 | some l =>
  rw [hpl] at hL
  simp only [Option.some.injEq] at hL ⊢
  refine pairsAll_free fun j y m hy hmm=>pairsOne_free fun i x hx hb=>?_
  rw [Nat.zero_add] at hx hb
  have hi:i < j:=by
   have:=(List.getElem?_eq_some_iff.1 hx).1
   simp at this;omega
  rw [List.getElem?_take,if_pos hi] at hx
  have:=mem_freeAll (j0:=0) hmm (by omega) hb
  rw [Nat.zero_add,hL] at this
  exact pairsOK_mem hp this x y hx hy
theorem pairR_free {x y:Rk} (h1:x.k=x.k') (h2:x.w=[]) (h3:x.wb=false) (h4:x.eb=none) (h5:x.vl=[]) (h6:x.vb=false) (h7:y.wb=false) (h8:x.k'≤y.k) (h9:x.k'=0):pairR x y=true:=by
 have hb:Nat.beq x.k x.k'=true:=by rw [h1];simp
 have c1:crossB x y=true:=by
  unfold crossB
  rw [h2,h3,h4,hb]
  have hv:(y.vl.all fun j=>!memL j [] && (Nat.blt j x.k || Nat.ble x.k' j))=true:=by
   rw [List.all_eq_true]
   intro j _
   rw [h9]
   simp [memL]
  rw [hv]
  simp [noneB]
 have c2:crossB y x=true:=by
  unfold crossB
  rw [h5,h6,h7,hb]
  simp
 unfold pairR
 rw [c1,c2,hb,ble_iff.2 h8];rfl
def recGL (k q:Nat):Rk:={ vb:=true,vl:=[q],k:=k,k':=k+1,w:=[],wb:=true,nv:=none,cn:=none }
section
variable {ops:Array Oper} {draw:Bool} {rs:List Rk} {l:List Oper} {fl:List (Nat × Value)} {nt:Nat} {B:Hp} {π:Nat→Nat} {k:Nat} {hl:List (Nat × Option Blk)} {K:Fr→SH→Prop} {d:Tmp} {ty:TypeId} {pos:String} {af:Array Edge} {gd:Option (Nat × Bool)}
end
end Go.AH
namespace Go.AH
variable {P:Program}
def cutH (H:Hp) (n:Nat):Hp:=⟨fun i=>if i < n then H.m i else none,n⟩
def recYE (k k':Nat) (e:Nat→Bool):Rk:={ vb:=true,vl:=List.range k,k:=k,k':=k',w:=List.range k,wb:=false,nv:=none,cn:=none,eb:=some e }
def recYG (k k':Nat) (e:Nat→Bool) (kp:Option (Nat × Nat × Value)):Rk:={ recYE k k' e with kp:=kp }
theorem hidYE {n0:Nat} {π:Nat→Nat} {k k' id:Nat} {e:Nat→Bool} (h:id < n0∨(idx π k' id).isSome=true):hidR n0 π (recYE k k' e) id=false:=by
 have:=hidY (k:=k) h
 unfold hidR recY at this
 unfold hidR recYE
 exact this
theorem effYE {n0:Nat} {π:Nat→Nat} {k k' id:Nat} {e:Nat→Bool}:effR n0 π (recYE k k' e) id=true↔(id < n0∧e id=true)∨(¬ id < n0∧(idx π k' id).isSome=true):=by
 have:=effY (n0:=n0) (π:=π) (k:=k) (k':=k') (id:=id)
 unfold effR recY at this
 unfold effR recYE
 by_cases hlt:id < n0
 ·simp [hlt]
 ·simp only [hlt,if_false,not_false_eq_true,true_and,false_and,false_or] at this ⊢
  exact this
def sideBut (b:Nat):List Rk→Prop
 | []=>True
 | r::rs=>(r.eb=none∨r.eb=some fun id=>!(id == b))∧(r.sb=none∨r.sb=some fun id=>id == b)∧sideBut b rs
theorem RS.nilPX [Pend] {ops:Array Oper} {rs:List Rk} {f:Fr} {h:SH} {K:Fr→SH→Prop} (hm:P.follows .mixedOrders=true) (L:List (Nat × Nat)) (hL:freeP P ops=some L) (hp:pairsOK rs.reverse L) (hside:∀ x∈rs,∀ y∈rs,SideX x y) (hk:K f h) (hno:noSt rs=true:=by rfl):RS P ops true rs [] f h K:=by
 refine RS.nilX hm (fun _=>?_) (fun _=>hside) hk hno
 unfold freeP at hL
 unfold finalChk
 cases hpl:planD P ops with
 | none=>rw [hpl] at hL;cases hL
 | some l =>
  rw [hpl] at hL
  simp only [Option.some.injEq] at hL ⊢
  refine pairsAll_free fun j y m hy hmm=>pairsOne_free fun i x hx hb=>?_
  rw [Nat.zero_add] at hx hb
  have hi:i < j:=by
   have:=(List.getElem?_eq_some_iff.1 hx).1
   simp at this;omega
  rw [List.getElem?_take,if_pos hi] at hx
  have:=mem_freeAll (j0:=0) hmm (by omega) hb
  rw [Nat.zero_add,hL] at this
  exact pairsOK_mem hp this x y hx hy
section
variable {ops:Array Oper} {draw:Bool} {rs:List Rk} {l:List Oper} {fl:List (Nat × Value)} {nt:Nat} {K:Fr→SH→Prop} {d:Tmp} {ty:TypeId} {pos:String} {af:Array Edge} {gd:Option (Nat × Bool)}
theorem RS.callYG [Pend] {h:SH} {g0:FuncId} {xs:Array Operand} {ts:Array TypeId} {vs:List Value} (e:Nat→Bool) (kp:Option (Nat × Nat × Value)) [hg:GF P g0] (hw:wantB ops ⟨some d,.call { callee:=.value (.func g0),args:=xs,argTypes:=ts },ty,pos,af,gd⟩ ⟨fl,nt⟩=some true) (hd:Nat.blt d nt=true)
 (hx:evAll fl nt xs.toList=some vs) (ht:∀ B',h.den=B'→Absb (P:=P) h B'→∃ Q,EX P g0 vs B' Q∧(∀ v H',Q v H'→∀ i,i < h.base.n→e i=false→H'.m i=B'.m i)∧(∀ v H',Q v H'→Sat P H'→B'.n≤H'.n→∀ q,kp=some q→StC H' q.1 q.2.1 q.2.2) ∧
  ∀ v H' k' l',Q v H'→Sat P H'→B'.n≤H'.n→(∀ i c,i < B'.n→H'.m i=some c→∃ c',B'.m i=some c')→({ base:=cutH H' h.base.n,π:=h.π,k:=k',l:=l' }:SH).den=H'→({ base:=cutH H' h.base.n,π:=h.π,k:=k',l:=l' }:SH).WF→h.k≤k'→RS P ops draw (recYG h.k k' e kp::rs) l ⟨(d,v)::fl,nt⟩ { base:=cutH H' h.base.n,π:=h.π,k:=k',l:=l' } K) :
 RS P ops draw rs (⟨some d,.call { callee:=.value (.func g0),args:=xs,argTypes:=ts },ty,pos,af,gd⟩::l) ⟨fl,nt⟩ h K:=by
 refine RS.stepD hw hd fun a g w s b hk=>?_
 obtain ⟨Q,he,hold,hkp,hq⟩:=ht _ rfl (Absb.of w s)
 have hgn:P.globals.size≤h.den.n:=by obtain ⟨ρ,W,ho⟩:=s;exact ho.gn
 obtain ⟨v,H',htf,q⟩:=he s (evAll_bnd g hgn b (fun x hx'=>hk x (by simp [Op.operands,Call.operands] at hx' ⊢;first|exact hx'|exact .inr hx'|exact .inl hx')) hx)
 have htx:=fun {a:Act} (g:Agr ⟨fl,nt⟩ a)=>tx_call (ty:=ty) (pos:=pos) (af:=af) (gd:=gd) (d:=d) (ts:=ts) g hx htf
 have s1:=(TX.sat (htx g) hk s b).1
 obtain ⟨m1,m2⟩:=TX.more (htx g) hk s b
 have w0:({ h with base:=cutH H' h.base.n }:SH).WF:=⟨w.up,w.lo,w.hi,w.inj,w.bn,(fun i c hc=>by
  by_cases hi:i < h.base.n
  ·exact hi
  ·have hc:(if i < h.base.n then H'.m i else none)=some c:=hc
   rw [if_neg hi] at hc;cases hc),w.bo⟩
 have hbase:∀ i,i < h.base.n→H'.m i=(cutH H' h.base.n).m i:=fun i hi=>by
  show _=if i < h.base.n then H'.m i else none
  rw [if_pos hi]
 obtain ⟨dd,_,hden,hwf⟩:=SH.part (h:={ h with base:=cutH H' h.base.n }) w0 (H:=H') m1 (fun i c hi hc=>by
  by_cases hlt:i < h.base.n
  ·refine ⟨c,?_⟩
   show (if i < h.base.n then (cutH H' h.base.n).m i else _)=some c
   rw [if_pos hlt,← hbase i hlt];exact hc
  ·obtain ⟨c',hc'⟩:=m2 i c hi hc
   refine ⟨c',?_⟩
   simp only [SH.den] at hc' ⊢
   rw [if_neg hlt] at hc'
   rw [if_neg (show ¬ i < (cutH H' h.base.n).n from hlt)]
   exact hc') s1.dom hbase
 dsimp only at hden hwf
 have hpi:∀ {id:Nat} {bk:Blk},H'.m id=some bk→id < h.base.n∨(idx h.π (h.k+dd) id).isSome=true:=by
  intro id bk hb
  by_cases hlt:id < h.base.n
  ·exact .inl hlt
  ·right
   rw [← hden] at hb
   simp only [SH.den] at hb
   rw [if_neg (show ¬ id < (cutH H' h.base.n).n from hlt)] at hb
   cases hi:idx h.π (h.k+dd) id with
   | none=>rw [hi] at hb;cases hb
   | some i=>rfl
 have hpi0:∀ {id:Nat} {bk:Blk},h.den.m id=some bk→id < h.base.n∨(idx h.π (h.k+dd) id).isSome=true:=by
  intro id bk hb
  by_cases hlt:id < h.base.n
  ·exact .inl hlt
  ·right
   simp only [SH.den] at hb
   rw [if_neg hlt] at hb
   cases hi:idx h.π h.k id with
   | none=>rw [hi] at hb;cases hb
   | some i =>
    obtain ⟨g1,g2⟩:=idx_some hi
    have:=idx_at (π:=h.π) (k:=h.k+dd) hwf.inj (show i < h.k+dd by omega)
    rw [g2] at this
    rw [this];rfl
 have hh0:h.den.hide (hidR h.base.n h.π (recYE h.k (h.k+dd) e))=h.den:=by
  refine Hp.eq (fun id=>?_) rfl
  simp only [Hp.hide]
  split
  ·rename_i he
   cases hb:h.den.m id with
   | none=>rfl
   | some bk=>rw [hidYE (hpi0 hb)] at he;cases he
  ·rfl
 have hh1:H'.hide (hidR h.base.n h.π (recYE h.k (h.k+dd) e))=H':=by
  refine Hp.eq (fun id=>?_) rfl
  simp only [Hp.hide]
  split
  ·rename_i he
   cases hb:H'.m id with
   | none=>rfl
   | some bk=>rw [hidYE (hpi hb)] at he;cases he
  ·rfl
 refine ⟨v,_,recYG h.k (h.k+dd) e kp,⟨fun _ a g=>?_,fun _=>hwf,rfl,rfl,rfl,rfl,Nat.le_add_right _ _,fun _ id he=>?_,fun _ id he=>?_,fun _ id hid hn=>?_,trivial,fun _ id bk _ _ u _=>trivial⟩,⟨rfl,fun _ _ q hk=>by rw [hden];exact hkp v H' (by assumption) s1 m1 q hk⟩,hq v H' (h.k+dd) _ q s1 m1 m2 hden hwf (Nat.le_add_right _ _)⟩
 ·rw [hden]
  show TX P _ a.eval (h.den.hide (hidR h.base.n h.π (recYE h.k (h.k+dd) e))) v (H'.hide (hidR h.base.n h.π (recYE h.k (h.k+dd) e)))
  rw [hh0,hh1];exact htx g
 ·rw [hden]
  by_cases hlt:id < h.base.n
  ·refine hold v H' q id hlt ?_
   cases hei:e id with
   | false=>rfl
   | true =>
    have:effR h.base.n h.π (recYE h.k (h.k+dd) e) id=true:=effYE.2 (.inl ⟨hlt,hei⟩)
    have he:effR h.base.n h.π (recYE h.k (h.k+dd) e) id=false:=he
    rw [this] at he;cases he
  ·have hno:¬ (idx h.π (h.k+dd) id).isSome=true:=fun hi=>by
    have:effR h.base.n h.π (recYE h.k (h.k+dd) e) id=true:=effYE.2 (.inr ⟨hlt,hi⟩)
    have he:effR h.base.n h.π (recYE h.k (h.k+dd) e) id=false:=he
    rw [this] at he;cases he
   cases hb:H'.m id with
   | some bk => rcases hpi hb with h1 | h1
                ·exact absurd h1 hlt
                ·exact absurd h1 hno
   | none =>
    cases hb0:h.den.m id with
    | none=>rfl
    | some bk => rcases hpi0 hb0 with h1 | h1
                 ·exact absurd h1 hlt
                 ·exact absurd h1 hno
 ·rcases effYE.1 he with h1|h1
  ·exact hidYE (k:=h.k) (e:=e) (.inl h1.1)
  ·exact hidYE (k:=h.k) (e:=e) (.inr h1.2)
 ·rw [hden]
  cases hb:H'.m id with
  | none=>rfl
  | some bk =>
   obtain ⟨c,hc⟩:=m2 id bk hid hb
   have hn:h.den.m id=none:=hn
   rw [hn] at hc;cases hc
theorem RS.callYE [Pend] {h:SH} {g0:FuncId} {xs:Array Operand} {ts:Array TypeId} {vs:List Value} (e:Nat→Bool) [hg:GF P g0] (hw:wantB ops ⟨some d,.call { callee:=.value (.func g0),args:=xs,argTypes:=ts },ty,pos,af,gd⟩ ⟨fl,nt⟩=some true) (hd:Nat.blt d nt=true)
 (hx:evAll fl nt xs.toList=some vs) (ht:∀ B',h.den=B'→Absb (P:=P) h B'→∃ Q,EX P g0 vs B' Q∧(∀ v H',Q v H'→∀ i,i < h.base.n→e i=false→H'.m i=B'.m i) ∧
  ∀ v H' k' l',Q v H'→Sat P H'→B'.n≤H'.n→(∀ i c,i < B'.n→H'.m i=some c→∃ c',B'.m i=some c')→({ base:=cutH H' h.base.n,π:=h.π,k:=k',l:=l' }:SH).den=H'→({ base:=cutH H' h.base.n,π:=h.π,k:=k',l:=l' }:SH).WF→h.k≤k'→RS P ops draw (recYE h.k k' e::rs) l ⟨(d,v)::fl,nt⟩ { base:=cutH H' h.base.n,π:=h.π,k:=k',l:=l' } K) :
 RS P ops draw rs (⟨some d,.call { callee:=.value (.func g0),args:=xs,argTypes:=ts },ty,pos,af,gd⟩::l) ⟨fl,nt⟩ h K:=by
 refine RS.callYG e none hw hd hx fun B' hb ha=>?_
 obtain ⟨Q,h1,h2,h3⟩:=ht B' hb ha
 exact ⟨Q,h1,h2,(fun v H' _ _ _ q hq=>by cases hq),h3⟩
end
end Go.AH
namespace Go.AH
variable {P:Program}
def WR [Pend] (P:Program) (n:Nat) (c:Code) (f:Fr) (h:SH) (K:Exit→Fr→SH→Prop):Prop :=
 ∀ a,h.WF→Sat P h.den→bndA h.den.n a→Agr f a→∃ e f' h' a',K e f' h'∧h'.WF∧Sat P h'.den∧bndA h'.den.n a'∧Agr f' a'∧TR P n c a h.den e a' h'.den
theorem W.rounds [Pend] (n:Nat) {c:Code} {f:Fr} {h:SH} {K:Exit→Fr→SH→Prop} (hw:WR P n c f h K):W P (.loop c) f h K:=by
 intro a w s b g
 obtain ⟨e,f',h',a',k1,w1,s1,b1,g1,t1⟩:=hw a w s b g
 exact ⟨e,f',h',a',k1,w1,s1,b1,g1,TR.loop t1⟩
def roundR [Pend] (P:Program) (n:Nat) (c:Code) (K:Exit→Fr→SH→Prop):Exit→Fr→SH→Prop
 | .normal,f,h=>WR P n c f h K
 | e,f,h=>K e f h
theorem WR.step [Pend] {n:Nat} {c:Code} {f:Fr} {h:SH} {K:Exit→Fr→SH→Prop} (hw:W P c f h (roundR P n c K)):WR P (n+1) c f h K:=by
 intro a w s b g
 obtain ⟨e,f1,h1,a1,k1,w1,s1,b1,g1,t1⟩:=hw a w s b g
 cases e with
 | normal =>
  obtain ⟨e,f2,h2,a2,k2,w2,s2,b2,g2,t2⟩:=k1 a1 w1 s1 b1 g1
  exact ⟨e,f2,h2,a2,k2,w2,s2,b2,g2,TR.next t1 t2⟩
 | _=>exact ⟨_,f1,h1,a1,k1,w1,s1,b1,g1,TR.out t1 (by simp)⟩
section
variable [Pend] {n:Nat} {c:Code} {f:Fr} {h:SH} {K:Exit→Fr→SH→Prop}
theorem roundR_n (hk:WR P n c f h K):roundR P n c K .normal f h:=hk
theorem roundR_e {i:Nat} (hk:K (.exit i) f h):roundR P n c K (.exit i) f h:=hk
theorem roundR_r (hk:K .ret f h):roundR P n c K .ret f h:=hk
end
end Go.AH
namespace Go.AH
variable {P:Program}
def recN2 (k:Nat) (vb:Bool) (vl:List Nat):Rk:={ vb:=vb,vl:=vl,k:=k,k':=k+2,w:=[],wb:=false,nv:=none,cn:=none }
theorem recN2_eff {n0:Nat} {π:Nat→Nat} {k:Nat} {vb:Bool} {vl:List Nat} {id:Nat} (h:effR n0 π (recN2 k vb vl) id=true):¬ id < n0∧(id=π k∨id=π (k+1)):=by
 unfold effR recN2 at h
 by_cases h0:id < n0
 ·simp [h0] at h
 ·simp only [h0,if_false] at h
  cases hi:idx π (k+2) id with
  | none=>rw [hi] at h;cases h
  | some j =>
   rw [hi] at h
   obtain ⟨g1,g2⟩:=idx_some hi
   simp only [Bool.or_eq_true,memL,Bool.false_eq_true,false_or,decide_eq_true_eq] at h
   refine ⟨h0,?_⟩
   rcases (show j=k∨j=k+1 by omega) with rfl|rfl
   ·exact .inl g2.symm
   ·exact .inr g2.symm
section
variable {ops:Array Oper} {draw:Bool} {rs:List Rk} {l:List Oper} {fl:List (Nat × Value)} {nt:Nat} {B:Hp} {π:Nat→Nat} {k:Nat} {hl:List (Nat × Option Blk)} {K:Fr→SH→Prop} {d:Tmp} {ty:TypeId} {pos:String} {af:Array Edge} {gd:Option (Nat × Bool)}
theorem RS.callN2 [Pend] {g0:FuncId} {xs:Array Operand} {ts:Array TypeId} {vs:List Value} {v:Value} {b1 b2:Blk} (vb:Bool) (vl:List Nat) [hg:GF P g0] (hw:wantB ops ⟨some d,.call { callee:=.value (.func g0),args:=xs,argTypes:=ts },ty,pos,af,gd⟩ ⟨fl,nt⟩=some true) (hd:Nat.blt d nt=true)
 (hx:evAll fl nt xs.toList=some vs) (ht:∀ H:Hp,Sees ⟨B,π,k,hl⟩ vb vl H→H.n=π k→π (k+1)=π k+1→TF P g0 ⟨vs⟩ H v ((H.push b1).push b2))
 (hk:RS P ops draw (recN2 k vb vl::rs) l ⟨(d,v)::fl,nt⟩ ⟨B,π,k+2,(k+1,some b2)::(k,some b1)::hl⟩ K):RS P ops draw rs (⟨some d,.call { callee:=.value (.func g0),args:=xs,argTypes:=ts },ty,pos,af,gd⟩::l) ⟨fl,nt⟩ ⟨B,π,k,hl⟩ K:=by
 let h:SH:=⟨B,π,k,hl⟩
 let h1:SH:=⟨B,π,k+1,(k,some b1)::hl⟩
 let h2:SH:=⟨B,π,k+2,(k+1,some b2)::(k,some b1)::hl⟩
 have hden:h.WF→h2.den=(h.den.push b1).push b2:=fun w=>by
  have e1:h1.den=h.den.push b1:=(SH.push_den w b1).symm
  have w1:h1.WF:=w.push _
  rw [← e1]
  exact (SH.push_den w1 b2).symm
 have hw1:h.WF→h1.WF:=fun w=>w.push _
 have hinj:h.WF→∀ i j,i < k+2→j < k+2→π i=π j→i=j:=fun w=>((hw1 w).push []).inj
 have hup:h.WF→π (k+1)=π k+1:=fun w=>w.up k (Nat.le_refl _)
 have hbn:h.WF→¬ π k < B.n:=fun w=>Nat.not_lt.2 w.bn
 have hm:∀ id,((h.den.push b1).push b2).m id=if id=π k+1 then some b2 else if id=π k then some b1 else h.den.m id:=fun id=>rfl
 have hv1:h.WF→hidR B.n π (recN2 k vb vl) (π k)=false:=fun w=>by
  simp only [hidR,recN2,if_neg (hbn w),idx_at (hinj w) (show k < k+2 by omega)]
  simp
 have hv2:h.WF→hidR B.n π (recN2 k vb vl) (π (k+1))=false:=fun w=>by
  have:=hbn w
  have e:=hup w
  simp only [hidR,recN2,if_neg (show ¬ π (k+1) < B.n by omega),idx_at (hinj w) (show k+1 < k+2 by omega)]
  simp
 refine RS.step hw hd (h':=h2) (v:=v) (r:=recN2 k vb vl) ⟨fun w a g=>?_,fun w=>(hw1 w).push _,rfl,rfl,rfl,rfl,Nat.le_add_right _ _,fun w id he=>?_,fun w id he=>?_,fun w id hid hn=>?_,trivial,fun w id c he hc u hu=>trivial⟩ hk
 ·have hs:=sees_hide (h:=h) (r:=recN2 k vb vl) w (Nat.le_add_right _ _) (hinj w)
  have:=tx_call (ty:=ty) (pos:=pos) (af:=af) (gd:=gd) (d:=d) (ts:=ts) g hx (ht _ hs hs.n (hup w))
  show TX P _ a.eval (h.den.hide (hidR B.n π (recN2 k vb vl))) _ (h2.den.hide (hidR B.n π (recN2 k vb vl)))
  rw [hden w]
  have e:((h.den.push b1).push b2).hide (hidR B.n π (recN2 k vb vl))=((h.den.hide (hidR B.n π (recN2 k vb vl))).push b1).push b2:=by
   refine Hp.eq (fun id=>?_) rfl
   show (if hidR B.n π (recN2 k vb vl) id=true then none else if id=π k+1 then some b2 else if id=π k then some b1 else h.den.m id)=(if id=π k+1 then some b2 else if id=π k then some b1 else if hidR B.n π (recN2 k vb vl) id=true then none else h.den.m id)
   by_cases e:id=π k+1
   ·have h2:=hv2 w
    rw [hup w] at h2
    rw [if_pos e,if_pos e,e,h2];rfl
   ·by_cases e2:id=π k
    ·rw [if_neg e,if_neg e,if_pos e2,if_pos e2,e2,hv1 w];rfl
    ·rw [if_neg e,if_neg e,if_neg e2,if_neg e2]
  rw [e];exact this
 ·show h2.den.m id=h.den.m id
  rw [hden w,hm]
  have he:effR B.n π (recN2 k vb vl) id=false:=he
  by_cases e:id=π k+1
  ·exfalso
   have:effR B.n π (recN2 k vb vl) id=true:=by
    have:=hbn w
    rw [e,← hup w]
    simp only [effR,recN2,if_neg (show ¬ π (k+1) < B.n by have:=hup w;omega),idx_at (hinj w) (show k+1 < k+2 by omega)]
    simp
   rw [this] at he;cases he
  ·by_cases e2:id=π k
   ·exfalso
    have:effR B.n π (recN2 k vb vl) id=true:=by
     rw [e2]
     simp only [effR,recN2,if_neg (hbn w),idx_at (hinj w) (show k < k+2 by omega)]
     simp
    rw [this] at he;cases he
   ·rw [if_neg e,if_neg e2]
 ·obtain ⟨_,e|e⟩:=recN2_eff he
  ·subst e;exact hv1 w
  ·subst e;exact hv2 w
 ·show h2.den.m id=none
  rw [hden w,hm]
  have:id < π k:=hid
  rw [if_neg (by omega),if_neg (by omega)];exact hn
end
theorem EX.two {g:FuncId} {args:List Value} {h:Hp} {v2:Value} {b1 b2:Blk} (he:EX P g args h (fun v h'=>∃ i j,i≠j∧h.n≤i∧h.n≤j∧(∀ τ:Nat→Nat,(∀ x,x < h.n→τ x=x)→τ h.n=i→τ (h.n+1)=j→v=sub τ v2∧h'.m i=some (subB τ b1)∧h'.m j=some (subB τ b2))∧(h.n≤h'.n∧∀ x,x < h.n→h'.m x=h.m x)))
 (hb:∀ u∈b1.cells,bnd (h.n+2) u) (hb2:∀ u∈b2.cells,bnd (h.n+2) u) (hv:bnd (h.n+2) v2):TF P g ⟨args⟩ h v2 ((h.push b1).push b2):=by
 intro ha ρ W hok
 obtain ⟨v,h',t,i,j,hij,hi,hj,hq,o⟩:=he ⟨ρ,W,hok⟩ (fun x hx=>ha x (by simpa using hx))
 let τ:Nat→Nat:=fun x=>if x < h.n then x else if x=h.n then i else if x=h.n+1 then j else x
 have hτ:∀ x,x < h.n→τ x=x:=fun x hx=>if_pos hx
 have hτ1:τ h.n=i:=by show (if _ then _ else _)=_;rw [if_neg (by omega),if_pos rfl]
 have hτ2:τ (h.n+1)=j:=by show (if _ then _ else _)=_;rw [if_neg (by omega),if_neg (by omega),if_pos rfl]
 obtain ⟨q1,q2,q3⟩:=hq τ hτ hτ1 hτ2
 have hm:∀ id,((h.push b1).push b2).m id=if id=h.n+1 then some b2 else if id=h.n then some b1 else h.m id:=fun id=>rfl
 have hcase:∀ x b,((h.push b1).push b2).m x=some b→(x=h.n+1∧b=b2)∨(x=h.n∧b=b1)∨(x < h.n∧h.m x=some b):=by
  intro x b hx
  rw [hm] at hx
  by_cases e:x=h.n+1
  ·rw [if_pos e] at hx;injection hx with hx;exact .inl ⟨e,hx.symm⟩
  ·rw [if_neg e] at hx
   by_cases e2:x=h.n
   ·rw [if_pos e2] at hx;injection hx with hx;exact .inr (.inl ⟨e2,hx.symm⟩)
   ·rw [if_neg e2] at hx;exact .inr (.inr ⟨hok.lt x b hx,hx⟩)
 have hn:((h.push b1).push b2).n=h.n+2:=rfl
 refine TF.leaveN (τ:=τ) t (by rw [hn];omega) hτ (fun x b hx=>?_) (fun x b hx u hu=>?_) (by rw [hn];exact hv) (fun x b hx=>?_) (fun x b hx hx0 hr=>?_) (fun x y b c hx hy e=>?_) q1 ha ρ W hok
 ·rw [hn];rcases hcase x b hx with ⟨e,_⟩|⟨e,_⟩|⟨e,_⟩<;>omega
 ·rw [hn]
  rcases hcase x b hx with ⟨_,rfl⟩|⟨_,rfl⟩|⟨_,e⟩
  ·exact hb2 u hu
  ·exact hb u hu
  ·exact bnd_mono (by omega) u (hok.bd x b e u hu)
 ·rcases hcase x b hx with ⟨rfl,rfl⟩|⟨rfl,rfl⟩|⟨e1,e⟩
  ·rw [hτ2];exact q3
  ·rw [hτ1];exact q2
  ·rw [hτ x e1,o.2 x e1,e]
   congr 1
   obtain ⟨cs,el⟩:=b
   show (⟨cs,el⟩:Blk)=⟨cs.map (sub τ),el⟩
   congr 1
   conv=>lhs;rw [← Array.map_id cs]
   exact Array.map_congr_left fun u hu=>(sub_same (n:=h.n) hτ u (hok.bd x _ e u hu)).symm
 ·rcases hcase x b hx with ⟨rfl,_⟩|⟨rfl,_⟩|⟨e,_⟩
  ·rw [hτ2];omega
  ·rw [hτ1];omega
  ·omega
 ·rcases hcase x b hx with ⟨rfl,_⟩|⟨rfl,_⟩|⟨e1,_⟩<;>rcases hcase y c hy with ⟨rfl,_⟩|⟨rfl,_⟩|⟨f1,_⟩
  ·rfl
  ·rw [hτ1,hτ2] at e;omega
  ·rw [hτ2,hτ y f1] at e;omega
  ·rw [hτ1,hτ2] at e;omega
  ·rfl
  ·rw [hτ1,hτ y f1] at e;omega
  ·rw [hτ2,hτ x e1] at e;omega
  ·rw [hτ1,hτ x e1] at e;omega
  ·rw [hτ x e1,hτ y f1] at e;exact e
section
variable {ops:Array Oper} {draw:Bool} {rs:List Rk} {l:List Oper} {fl:List (Nat × Value)} {nt:Nat} {B:Hp} {π:Nat→Nat} {k:Nat} {hl:List (Nat × Option Blk)} {K:Fr→SH→Prop} {d:Tmp} {ty:TypeId} {pos:String} {af:Array Edge} {gd:Option (Nat × Bool)}
theorem RS.loadF [Pend] {t:TypeId} {x:Operand} {i off size:Nat} {cs:List Value} {e:TypeId} [hu:TyAgg P t size] (hw:wantB ops ⟨some d,.load t x,ty,pos,af,gd⟩ ⟨fl,nt⟩=some true) (hd:Nat.blt d nt=true) (hx:Fr.ev ⟨fl,nt⟩ x=some (.pointer (some ⟨π i,off,none⟩)))
 (hi:Nat.blt i k=true) (hb:lookB hl i=some ⟨⟨cs⟩,e⟩) (hn:off+size≤cs.length) (hf:bnd 0 (.agg ⟨takeV off size cs⟩))
 (hk:RS P ops draw (recP k false [i] (some [])::rs) l ⟨(d,.agg ⟨takeV off size cs⟩)::fl,nt⟩ ⟨B,π,k,hl⟩ K):RS P ops draw rs (⟨some d,.load t x,ty,pos,af,gd⟩::l) ⟨fl,nt⟩ ⟨B,π,k,hl⟩ K:=by
 obtain ⟨h1,h2⟩:=hu.eq
 cases ht:P.underlying t with
 | none=>rw [ht] at h1;cases h1
 | some td =>
  cases hti:P.info? t with
  | none=>rw [hti] at h2;cases h2
  | some ti =>
   rw [ht] at h1;rw [hti] at h2
   simp only [Option.map_some,Option.some.injEq] at h1 h2
   refine RS.step hw hd (One.reads (h:=⟨B,π,k,hl⟩) (nv:=some []) (fun a g H hs=>?_) (Nm_free hf)) hk
   have:=TX.loadN (P:=P) (o:=⟨some d,.load t x,ty,pos,af,gd⟩) (ev:=a.eval) (h:=H) rfl ht h1 hti (g.ev hx) rfl (by have:=hs.l i (memL_self i []) (blt_iff.1 hi);rw [this];exact hb) (by rw [h2];simpa using hn)
   rw [h2] at this
   have e:(⟨cs⟩:Array Value).extract off (off+size)=⟨takeV off size cs⟩:=by
    apply Array.ext';simp [takeV_eq]
   rw [e] at this
   exact this
end
section
variable {ops:Array Oper} {draw:Bool} {rs:List Rk} {l:List Oper} {fl:List (Nat × Value)} {nt:Nat} {B:Hp} {π:Nat→Nat} {k:Nat} {hl:List (Nat × Option Blk)} {K:Fr→SH→Prop} {d:Tmp} {ty:TypeId} {pos:String} {af:Array Edge} {gd:Option (Nat × Bool)}
theorem RS.buildSliceX [Pend] {t e:TypeId} {len sz:Nat} {parts:Array (Nat × Operand)} {cs:List Value} {z:Value} {ps:List (Nat × Value)} [hu:TyU P t (.slice e)] [hs:TySz P e sz] [hz:TyZ P e z] (hw:wantB ops ⟨some d,.buildSlice t len parts,ty,pos,af,gd⟩ ⟨fl,nt⟩=some true) (hd:Nat.blt d nt=true)
 (hp:partsV fl nt parts.toList=some ps) (hl0:Nat.beq (cellsV z).length sz=true) (hp0:Nat.blt 0 sz=true) (hn0:Nat.blt 0 len=true) (hbig:Nat.ble (Nat.mul len sz) 16777216=true) (hf:fillR sz (repL (cellsV z) len) ps=some cs) (hf2:∀ u∈cs,bnd B.n u)
 (hk:RS P ops draw (recN k false [] (some [k]) (some [])::rs) l ⟨(d,.slice (some ⟨π k,0,none⟩) len len)::fl,nt⟩ ⟨B,π,k+1,(k,some ⟨⟨cs⟩,e⟩)::hl⟩ K):RS P ops draw rs (⟨some d,.buildSlice t len parts,ty,pos,af,gd⟩::l) ⟨fl,nt⟩ ⟨B,π,k,hl⟩ K:=by
 have h1:=hz.eq
 have hsz:=hs.eq
 cases hi:P.info? e with
 | none=>rw [hi] at h1;cases h1
 | some ti =>
  rw [hi] at h1 hsz
  have h2:ti.zero=some z:=h1
  have h3:ti.size=sz:=by simpa using hsz
  subst h3
  have hzf:=freeB_bnd hz.fr
  have hl1:(cellsV z).length=ti.size:=Nat.eq_of_beq_eq_true hl0
  have hp1:=blt_iff.1 hp0
  have hn1:=blt_iff.1 hn0
  have hb1:len * ti.size≤16777216:=ble_iff.1 hbig
  have hpos:0 < len * ti.size:=Nat.mul_pos hn1 hp1
  refine RS.step hw hd (One.new (h:=⟨B,π,k,hl⟩) (b:=⟨⟨cs⟩,e⟩) (cn:=some []) (fun a g H hs=>?_) ?_ fun u hu=>Nm_base (hf2 u (by simpa using hu))) hk
  ·have hfill:Instr.fill (fun i=>some (i * ti.size,ti.size)) (zeros z.cells (len * ti.size)) (parts.toList.map fun p=>(p.1,a.eval p.2))=some ⟨cs⟩:=by
    rw [partsV_ok g hp,cellsV_eq,← hl1,zeros_rep (by omega),hl1]
    exact fillR_eq hf
   have:=TX.buildSlice (P:=P) (o:=⟨some d,.buildSlice t len parts,ty,pos,af,gd⟩) (ev:=a.eval) (h:=H) rfl hu.eq hi h2 hzf hu.ltE (by simpa using hb1) (by omega) hfill
   rw [hs.n] at this;exact this
  ·show ment _ _
   rw [ment];exact .inr ⟨k,by simp,rfl⟩
theorem RS.callN1 [Pend] {g0:FuncId} {xs:Array Operand} {ts:Array TypeId} {vs:List Value} {v:Value} {b:Blk} (vb:Bool) (vl:List Nat) [hg:GF P g0] (hw:wantB ops ⟨some d,.call { callee:=.value (.func g0),args:=xs,argTypes:=ts },ty,pos,af,gd⟩ ⟨fl,nt⟩=some true) (hd:Nat.blt d nt=true)
 (hx:evAll fl nt xs.toList=some vs) (ht:∀ H:Hp,Sees ⟨B,π,k,hl⟩ vb vl H→H.n=π k→TF P g0 ⟨vs⟩ H v (H.push b))
 (hk:RS P ops draw (recN k vb vl none none::rs) l ⟨(d,v)::fl,nt⟩ ⟨B,π,k+1,(k,some b)::hl⟩ K):RS P ops draw rs (⟨some d,.call { callee:=.value (.func g0),args:=xs,argTypes:=ts },ty,pos,af,gd⟩::l) ⟨fl,nt⟩ ⟨B,π,k,hl⟩ K :=
 RS.callN vb vl hw hd hx (fun H hs=>ht H hs hs.n) hk
end
theorem EX.one {g:FuncId} {args:List Value} {h:Hp} {v2:Value} {b1:Blk} (he:EX P g args h (fun v h'=>∃ i,h.n≤i∧(∀ τ:Nat→Nat,(∀ x,x < h.n→τ x=x)→τ h.n=i→v=sub τ v2∧h'.m i=some (subB τ b1))∧(h.n≤h'.n∧∀ x,x < h.n→h'.m x=h.m x)))
 (hb:∀ u∈b1.cells,bnd (h.n+1) u) (hv:bnd (h.n+1) v2):TF P g ⟨args⟩ h v2 (h.push b1):=by
 intro ha ρ W hok
 obtain ⟨v,h',t,i,hi,hq,o⟩:=he ⟨ρ,W,hok⟩ (fun x hx=>ha x (by simpa using hx))
 let τ:Nat→Nat:=fun x=>if x < h.n then x else if x=h.n then i else x
 have hτ:∀ x,x < h.n→τ x=x:=fun x hx=>if_pos hx
 have hτ1:τ h.n=i:=by show (if _ then _ else _)=_;rw [if_neg (by omega),if_pos rfl]
 obtain ⟨q1,q2⟩:=hq τ hτ hτ1
 have hm:∀ id,(h.push b1).m id=if id=h.n then some b1 else h.m id:=fun id=>rfl
 have hcase:∀ x b,(h.push b1).m x=some b→(x=h.n∧b=b1)∨(x < h.n∧h.m x=some b):=by
  intro x b hx
  rw [hm] at hx
  by_cases e2:x=h.n
  ·rw [if_pos e2] at hx;injection hx with hx;exact .inl ⟨e2,hx.symm⟩
  ·rw [if_neg e2] at hx;exact .inr ⟨hok.lt x b hx,hx⟩
 have hn:(h.push b1).n=h.n+1:=rfl
 refine TF.leaveN (τ:=τ) t (by rw [hn];omega) hτ (fun x b hx=>?_) (fun x b hx u hu=>?_) (by rw [hn];exact hv) (fun x b hx=>?_) (fun x b hx hx0 hr=>?_) (fun x y b c hx hy e=>?_) q1 ha ρ W hok
 ·rw [hn];rcases hcase x b hx with ⟨e,_⟩|⟨e,_⟩<;>omega
 ·rw [hn]
  rcases hcase x b hx with ⟨_,rfl⟩|⟨_,e⟩
  ·exact hb u hu
  ·exact bnd_mono (by omega) u (hok.bd x b e u hu)
 ·rcases hcase x b hx with ⟨rfl,rfl⟩|⟨e1,e⟩
  ·rw [hτ1];exact q2
  ·rw [hτ x e1,o.2 x e1,e]
   congr 1
   obtain ⟨cs,el⟩:=b
   show (⟨cs,el⟩:Blk)=⟨cs.map (sub τ),el⟩
   congr 1
   conv=>lhs;rw [← Array.map_id cs]
   exact Array.map_congr_left fun u hu=>(sub_same (n:=h.n) hτ u (hok.bd x _ e u hu)).symm
 ·rcases hcase x b hx with ⟨rfl,_⟩|⟨e,_⟩
  ·rw [hτ1];omega
  ·omega
 ·rcases hcase x b hx with ⟨rfl,_⟩|⟨e1,_⟩<;>rcases hcase y c hy with ⟨rfl,_⟩|⟨f1,_⟩
  ·rfl
  ·rw [hτ1,hτ y f1] at e;omega
  ·rw [hτ1,hτ x e1] at e;omega
  ·rw [hτ x e1,hτ y f1] at e;exact e
section
variable {ops:Array Oper} {draw:Bool} {rs:List Rk} {l:List Oper} {fl:List (Nat × Value)} {nt:Nat} {B:Hp} {π:Nat→Nat} {k:Nat} {hl:List (Nat × Option Blk)} {K:Fr→SH→Prop} {d:Tmp} {ty:TypeId} {pos:String} {af:Array Edge} {gd:Option (Nat × Bool)}
theorem Nm_loc {n0:Nat} {π:Nat→Nat} {i off:Nat}:NmO n0 π (some [i]) (.pointer (some ⟨π i,off,none⟩)):=by show ment _ _;rw [ment];exact .inr ⟨i,by simp,rfl⟩
theorem RS.moveP [Pend] {x:Operand} {i off:Nat} (hw:wantB ops ⟨some d,.move x,ty,pos,af,gd⟩ ⟨fl,nt⟩=some true) (hd:Nat.blt d nt=true) (hx:Fr.ev ⟨fl,nt⟩ x=some (.pointer (some ⟨π i,off,none⟩)))
 (hk:RS P ops draw (recP k false [] (some [i])::rs) l ⟨(d,.pointer (some ⟨π i,off,none⟩))::fl,nt⟩ ⟨B,π,k,hl⟩ K):RS P ops draw rs (⟨some d,.move x,ty,pos,af,gd⟩::l) ⟨fl,nt⟩ ⟨B,π,k,hl⟩ K :=
 RS.still (nv:=some [i]) (h:=⟨B,π,k,hl⟩) hw hd (fun a g H=>by rw [← g.ev hx];exact TX.move rfl) Nm_loc hk
theorem RS.nilCheckP [Pend] {x:Operand} {i off:Nat} (hw:wantB ops ⟨some d,.nilCheck x,ty,pos,af,gd⟩ ⟨fl,nt⟩=some true) (hd:Nat.blt d nt=true) (hx:Fr.ev ⟨fl,nt⟩ x=some (.pointer (some ⟨π i,off,none⟩)))
 (hk:RS P ops draw (recP k false [] (some [i])::rs) l ⟨(d,.pointer (some ⟨π i,off,none⟩))::fl,nt⟩ ⟨B,π,k,hl⟩ K):RS P ops draw rs (⟨some d,.nilCheck x,ty,pos,af,gd⟩::l) ⟨fl,nt⟩ ⟨B,π,k,hl⟩ K :=
 RS.still (nv:=some [i]) (h:=⟨B,π,k,hl⟩) hw hd (fun a g H=>by
  have:=TX.nilCheck (P:=P) (o:=⟨some d,.nilCheck x,ty,pos,af,gd⟩) (ev:=a.eval) (h:=H) rfl (g.ev hx)
  rw [g.ev hx] at this;exact this) Nm_loc hk
theorem RS.fieldAddrP [Pend] {t:TypeId} {x:Operand} {j off:Nat} {i o0:Nat} [ho:FOff P t j off] (hw:wantB ops ⟨some d,.fieldAddr t x j,ty,pos,af,gd⟩ ⟨fl,nt⟩=some true) (hd:Nat.blt d nt=true) (hx:Fr.ev ⟨fl,nt⟩ x=some (.pointer (some ⟨π i,o0,none⟩)))
 (hk:RS P ops draw (recP k false [] (some [i])::rs) l ⟨(d,.pointer (some ⟨π i,o0+off,none⟩))::fl,nt⟩ ⟨B,π,k,hl⟩ K):RS P ops draw rs (⟨some d,.fieldAddr t x j,ty,pos,af,gd⟩::l) ⟨fl,nt⟩ ⟨B,π,k,hl⟩ K:=by
 refine RS.still (nv:=some [i]) (h:=⟨B,π,k,hl⟩) hw hd (fun a g H=>?_) Nm_loc hk
 have h1:=ho.eq
 unfold offOf at h1
 split at h1
 ·rename_i fs hu
  split at h1
  ·rename_i f hf
   split at h1
   ·rename_i fi hi
    cases hz:Nat.beq fi.size 0 with
    | true=>rw [hz] at h1;cases h1
    | false =>
     rw [hz] at h1
     simp only [cond_false,Option.some.injEq] at h1
     have:=TX.fieldAddr (P:=P) (o:=⟨some d,.fieldAddr t x j,ty,pos,af,gd⟩) (ev:=a.eval) (h:=H) rfl hu hf hi (fun e=>by rw [e] at hz;cases hz) (g.ev hx)
     rw [h1,add_eq] at this
     cases hb:Nat.beq off 0 with
     | true=>have:=Nat.eq_of_beq_eq_true hb;subst this;rw [hb] at *;exact this
     | false=>rw [hb] at this;exact this
   ·cases h1
  ·cases h1
 ·cases h1
end
end Go.AH
namespace Go.AH
variable {P:Program}
def recGE (k j i:Nat):Rk:={ vb:=true,vl:=[i],k:=k,k':=k+1,w:=[],wb:=false,nv:=some [k],cn:=none,eb:=some fun id=>id == j }
section
variable {ops:Array Oper} {draw:Bool} {rs:List Rk} {l:List Oper} {fl:List (Nat × Value)} {nt:Nat} {B:Hp} {π:Nat→Nat} {k:Nat} {hl:List (Nat × Option Blk)} {K:Fr→SH→Prop} {d:Tmp} {ty:TypeId} {pos:String} {af:Array Edge} {gd:Option (Nat × Bool)}
theorem RS.growXL [Pend] {t e:TypeId} {x y:Operand} {i j off len n c sz by':Nat} {cs ds:List Value} {z:Value} {e2:TypeId} [hu:TyU P t (.slice e)] [hs:TySz P e sz] [hb:TyBy P e by'] [hz:TyZ P e z] (hw:wantB ops ⟨some d,.call { callee:=.builtin .append,args:=#[x,y],argTypes:=#[t,t] },ty,pos,af,gd⟩ ⟨fl,nt⟩=some true) (hd:Nat.blt d nt=true)
 (hx:Fr.ev ⟨fl,nt⟩ x=some (.slice (some ⟨j,0,none⟩) len (capOf sz))) (hy:Fr.ev ⟨fl,nt⟩ y=some (.slice (some ⟨π i,off,none⟩) n c)) (hl0:Nat.beq (cellsV z).length sz=true) (hp0:Nat.blt 0 sz=true) (hbj:B.m j=some ⟨⟨cs⟩,e⟩) (hjn:j < B.n) (hjr:rwM≤j) (hcs:cs.length=len * sz)
 (hik:Nat.blt i k=true) (hbi:lookB hl i=some ⟨⟨ds⟩,e2⟩) (hn:off+n * sz≤ds.length) (hone:(takeV off (n * sz) ds).all (·.oneCell')=true) (hbig:(len+n) * by'≤140737488355328) (h63:len+n≤9223372036854775807)
 (hk:RS P ops draw (recGE k j i::rs) l ⟨(d,.slice (some ⟨π k,0,none⟩) (len+n) (capOf sz))::fl,nt⟩ ⟨B.kill j,π,k+1,(k,some ⟨⟨cs++takeV off (n * sz) ds⟩,e⟩)::hl⟩ K):RS P ops draw rs (⟨some d,.call { callee:=.builtin .append,args:=#[x,y],argTypes:=#[t,t] },ty,pos,af,gd⟩::l) ⟨fl,nt⟩ ⟨B,π,k,hl⟩ K:=by
 have h1:=hz.eq
 have hsz:=hs.eq
 have hby:=hb.eq
 cases hi:P.info? e with
 | none=>rw [hi] at h1;cases h1
 | some ti =>
  rw [hi] at h1 hsz hby
  have h2:ti.zero=some z:=h1
  have h3:ti.size=sz:=by simpa using hsz
  have h4:ti.bytes=by':=by simpa using hby
  subst h3;subst h4
  have hzf:=freeB_bnd hz.fr
  have hl1:(cellsV z).length=ti.size:=Nat.eq_of_beq_eq_true hl0
  have heff:∀ {id:Nat},effR B.n π (recGE k j i) id=true→(id < B.n∧id=j)∨(¬ id < B.n∧id=π k):=by
   intro id he
   unfold effR recGE at he
   by_cases h0:id < B.n
   ·simp [h0] at he;exact .inl ⟨h0,he⟩
   ·simp only [h0,if_false] at he
    cases hx:idx π (k+1) id with
    | none=>rw [hx] at he;cases he
    | some q =>
     rw [hx] at he
     obtain ⟨g1,g2⟩:=idx_some hx
     simp only [Bool.or_eq_true,memL,Bool.false_eq_true,false_or,decide_eq_true_eq] at he
     have:q=k:=by omega
     subst this;exact .inr ⟨h0,g2.symm⟩
  let h:SH:=⟨B,π,k,hl⟩
  let b':Blk:=⟨⟨cs++takeV off (n * ti.size) ds⟩,e⟩
  let h':SH:=⟨B.kill j,π,k+1,(k,some b')::hl⟩
  have hwk:h.WF→(⟨B.kill j,π,k,hl⟩:SH).WF:=fun w=>⟨w.up,w.lo,w.hi,w.inj,w.bn,fun id b hb=>by
   have hb:(if id=j then none else B.m id)=some b:=hb
   split at hb
   ·cases hb
   ·exact w.bd id b hb,w.bo⟩
  have hden:h.WF→h'.den=(h.den.kill j).push b':=by
   intro w
   have h5:(⟨B.kill j,π,k,hl⟩:SH).den=h.den.kill j:=(SH.kill_base (h:=h) w hjn).symm
   rw [← h5]
   exact (SH.push_den (hwk w) b').symm
  have hm:∀ id,((h.den.kill j).push b').m id=if id=π k then some b' else if id=j then none else h.den.m id:=fun id=>rfl
  have hjk:h.WF→j≠π k:=fun w e=>by have:=w.bn;simp only [h] at this;omega
  have hinj:h.WF→∀ a b,a < k+1→b < k+1→π a=π b→a=b:=fun w=>(w.push []).inj
  have hv1:h.WF→hidR B.n π (recGE k j i) (π k)=false:=by
   intro w
   have hb0:¬ π k < B.n:=Nat.not_lt.2 w.bn
   simp only [hidR,recGE,if_neg hb0,idx_at (hinj w) (Nat.lt_succ_self _)]
   simp
  have hv2:hidR B.n π (recGE k j i) j=false:=by simp [hidR,recGE,hjn]
  refine RS.step hw hd (h':=h') (r:=recGE k j i) (v:=.slice (some ⟨π k,0,none⟩) (len+n) (capOf ti.size)) ⟨fun w a g=>?_,fun w=>(hwk w).push _,rfl,rfl,rfl,rfl,Nat.le_succ _,fun w id he=>?_,fun w id he=>?_,fun w id hid hnn=>?_,?_,fun w id c he hc u hu=>trivial⟩ hk
  ·show TX P _ a.eval (h.den.hide (hidR B.n π (recGE k j i))) _ (h'.den.hide (hidR B.n π (recGE k j i)))
   rw [hden w]
   have e1:((h.den.kill j).push b').hide (hidR B.n π (recGE k j i))=((h.den.hide (hidR B.n π (recGE k j i))).kill j).push b':=by
    refine Hp.eq (fun id=>?_) rfl
    show (if hidR B.n π (recGE k j i) id=true then none else if id=π k then some b' else if id=j then none else h.den.m id)=(if id=π k then some b' else if id=j then none else if hidR B.n π (recGE k j i) id=true then none else h.den.m id)
    by_cases e:id=π k
    ·rw [if_pos e,if_pos e,e,hv1 w];rfl
    ·rw [if_neg e,if_neg e]
     by_cases e2:id=j
     ·rw [if_pos e2,if_pos e2];split<;>rfl
     ·rw [if_neg e2,if_neg e2]
   rw [e1]
   have hmb:∀ {q:Nat} {bq:Blk},B.m q=some bq→q < B.n→(h.den.hide (hidR B.n π (recGE k j i))).m q=some bq:=by
    intro q bq hq hqn
    have:hidR B.n π (recGE k j i) q=false:=by simp [hidR,recGE,hqn]
    simp only [Hp.hide,this]
    exact SH.m_base w hq
   have hik':i < k:=blt_iff.1 hik
   have hml:h.WF→(h.den.hide (hidR B.n π (recGE k j i))).m (π i)=some ⟨⟨ds⟩,e2⟩:=fun w=>by
    have hb1:¬ π i < B.n:=Nat.not_lt.2 (w.lo i hik')
    have:hidR B.n π (recGE k j i) (π i)=false:=by
     simp only [hidR,recGE,if_neg hb1,idx_at (hinj w) (Nat.lt_succ_of_lt hik')]
     simp [memL]
    simp only [Hp.hide,this]
    exact (SH.m_loc w hik').trans hbi
   have hsrc:srcCells (h.den.hide (hidR B.n π (recGE k j i))) ti.size n (a.eval y)=some ⟨takeV off (n * ti.size) ds⟩:=by
    rw [g.ev hy]
    simp only [srcCells,hml w]
    rw [if_pos ⟨trivial,by simpa using hn⟩]
    congr 1
    apply Array.ext'
    rw [takeV_eq];simp [List.extract_eq_take_drop]
   have hlen:(takeV off (n * ti.size) ds).length=n * ti.size:=by rw [takeV_eq];simp;omega
   have:=TX.appendGrow (P:=P) (o:=⟨some d,.call { callee:=.builtin .append,args:=#[x,y],argTypes:=#[t,t] },ty,pos,af,gd⟩) (ev:=a.eval) (h:=h.den.hide (hidR B.n π (recGE k j i))) (i:=j) (len:=len) (n:=n) (b:=⟨⟨cs⟩,e⟩) (new:=⟨takeV off (n * ti.size) ds⟩) rfl hu.eq hu.eq rfl hi h2 hzf hu.ltE (by rw [cellsV_eq];exact hl1) (blt_iff.1 hp0) (g.ev hx) hjr (hmb hbj hjn) rfl (by simpa using hcs) (by rw [g.ev hy];rfl) hsrc (by simpa using hlen) (by simpa using hone) h63 hbig
   rw [List.append_toArray] at this
   exact this
  ·show h'.den.m id=h.den.m id
   rw [hden w,hm]
   by_cases e:id=π k
   ·exfalso
    have:effR B.n π (recGE k j i) id=true:=by
     subst e
     have hb0:¬ π k < B.n:=Nat.not_lt.2 w.bn
     simp only [effR,recGE,if_neg hb0,idx_at (hinj w) (Nat.lt_succ_self _)]
     simp
    have he:effR B.n π (recGE k j i) id=false:=he
    rw [this] at he;cases he
   ·rw [if_neg e]
    by_cases e2:id=j
    ·exfalso
     have:effR B.n π (recGE k j i) id=true:=by
      subst e2
      simp [effR,recGE,hjn]
     have he:effR B.n π (recGE k j i) id=false:=he
     rw [this] at he;cases he
    ·rw [if_neg e2]
  ·rcases heff he with ⟨_,e⟩|⟨_,e⟩
   ·subst e;exact hv2
   ·subst e;exact hv1 w
  ·show h'.den.m id=none
   rw [hden w,hm]
   have hid:id < π k:=hid
   have hnn:h.den.m id=none:=hnn
   rw [if_neg (by omega)]
   split
   ·rfl
   ·exact hnn
  ·show ment _ _
   rw [ment];exact .inr ⟨k,by simp,rfl⟩
end
end Go.AH
namespace Go.AH
variable {P:Program}
def recIE (k j i:Nat):Rk:={ vb:=true,vl:=[i],k:=k,k':=k,w:=[],wb:=false,nv:=none,cn:=none,eb:=some fun id=>id == j }
section
variable {ops:Array Oper} {rs:List Rk} {l:List Oper} {fl:List (Nat × Value)} {nt:Nat} {B:Hp} {K:Fr→SH→Prop} {d:Tmp} {ty:TypeId} {pos:String} {af:Array Edge} {gd:Option (Nat × Bool)}
theorem RS.sliceW [Pend] {draw:Bool} {h:SH} {t e:TypeId} {x y:Operand} {r len n sz:Nat} {ki:IntKind} {cs:List Value} {e2:TypeId} [hu:TyU P t (.slice e)] [hs:TySz P e sz] (hw:wantB ops ⟨some d,.slice t x none (some y) none,ty,pos,af,gd⟩ ⟨fl,nt⟩=some true) (hd:Nat.blt d nt=true) (hx:Fr.ev ⟨fl,nt⟩ x=some (.slice (some ⟨r,0,none⟩) len (capOf sz))) (hy:Fr.ev ⟨fl,nt⟩ y=some (.int ki (n:Int)))
 (hp0:Nat.blt 0 sz=true) (hb:h.base.m r=some ⟨⟨cs⟩,e2⟩) (hlt:r < h.base.n) (hr:rwM≤r) (hn:n * sz≤cs.length)
 (hk:RS P ops draw (recP h.k true [] none::rs) l ⟨(d,.slice (some ⟨r,0,none⟩) n (capOf sz))::fl,nt⟩ h K):RS P ops draw rs (⟨some d,.slice t x none (some y) none,ty,pos,af,gd⟩::l) ⟨fl,nt⟩ h K:=by
 have hsz:=hs.eq
 cases hin:P.info? e with
 | none=>rw [hin] at hsz;cases hsz
 | some ti =>
  rw [hin] at hsz
  have h4:ti.size=sz:=by simpa using hsz
  refine RS.step hw hd (One.reads (h:=h) (vb:=true) (vl:=[]) (nv:=none) (fun a g H hH=>?_) trivial) hk
  have hm:H.m r=some ⟨⟨cs⟩,e2⟩:=by rw [hH.b rfl r hlt];exact hb
  have:=TX.sliceM (P:=P) (o:=⟨some d,.slice t x none (some y) none,ty,pos,af,gd⟩) (ev:=a.eval) (h:=H) (lo:=none) (hi:=some y) (l:=0) (hh:=n) (len:=len) rfl hu.eq hin (by rw [h4];exact blt_iff.1 hp0) (by rw [h4];exact g.ev hx) rfl ⟨ki,g.ev hy⟩ (Nat.zero_le _) hr hm (by
   simp only [List.size_toArray,h4];omega) (.inl rfl)
  rw [Nat.zero_mul,Nat.sub_zero,h4] at this
  exact this
theorem RS.pushInX [Pend] {draw:Bool} {π:Nat→Nat} {k:Nat} {hl:List (Nat × Option Blk)} {t e:TypeId} {x y:Operand} {i j len c sz:Nat} {cs ds:List Value} {e1 e2:TypeId} [hu:TyU P t (.slice e)] [hs:TySz P e sz] (hw:wantB ops ⟨some d,.call { callee:=.builtin .append,args:=#[x,y],argTypes:=#[t,t] },ty,pos,af,gd⟩ ⟨fl,nt⟩=some true) (hd:Nat.blt d nt=true)
 (hx:Fr.ev ⟨fl,nt⟩ x=some (.slice (some ⟨j,0,none⟩) len (capOf sz))) (hy:Fr.ev ⟨fl,nt⟩ y=some (.slice (some ⟨π i,0,none⟩) 1 c)) (hp0:Nat.blt 0 sz=true) (hbj:B.m j=some ⟨⟨cs⟩,e1⟩) (hjn:j < B.n) (hjr:rwM≤j) (hcs:(len+1) * sz≤cs.length)
 (hik:Nat.blt i k=true) (hbi:lookB hl i=some ⟨⟨ds⟩,e2⟩) (hn:ds.length=sz) (hone:ds.all (·.oneCell')=true)
 (hk:RS P ops draw (recIE k j i::rs) l ⟨(d,.slice (some ⟨j,0,none⟩) (len+1) (capOf sz))::fl,nt⟩ ⟨B.set j ⟨⟨setL cs (len * sz) ds⟩,e1⟩,π,k,hl⟩ K):RS P ops draw rs (⟨some d,.call { callee:=.builtin .append,args:=#[x,y],argTypes:=#[t,t] },ty,pos,af,gd⟩::l) ⟨fl,nt⟩ ⟨B,π,k,hl⟩ K:=by
 have hsz:=hs.eq
 cases hi:P.info? e with
 | none=>rw [hi] at hsz;cases hsz
 | some ti =>
  rw [hi] at hsz
  have h3:ti.size=sz:=by simpa using hsz
  subst h3
  let h:SH:=⟨B,π,k,hl⟩
  have hv2:hidR B.n π (recIE k j i) j=false:=by simp [hidR,recIE,hjn]
  have heff:∀ {id:Nat},effR B.n π (recIE k j i) id=true↔(id < B.n∧id=j):=by
   intro id
   unfold effR recIE
   by_cases h0:id < B.n
   ·simp [h0]
   ·simp only [h0,if_false,false_and,iff_false]
    cases hx:idx π k id with
    | none=>simp
    | some q =>
     obtain ⟨g1,_⟩:=idx_some hx
     simp [memL];omega
  refine RS.step hw hd (h':=⟨B.set j ⟨⟨setL cs (len * ti.size) ds⟩,e1⟩,π,k,hl⟩) (r:=recIE k j i) (v:=.slice (some ⟨j,0,none⟩) (len+1) (capOf ti.size)) ⟨fun w a g=>?_,fun w=>w.setB hjn _,rfl,rfl,rfl,rfl,Nat.le_refl _,fun w id he=>?_,fun w id he=>?_,fun w id hid hnn=>?_,trivial,fun w id c he hc u hu=>trivial⟩ hk
  ·have hik':i < k:=blt_iff.1 hik
   rw [← SH.set_base w hjn]
   have e0:(h.den.set j ⟨⟨setL cs (len * ti.size) ds⟩,e1⟩).hide (hidR B.n π (recIE k j i))=(h.den.hide (hidR B.n π (recIE k j i))).set j ⟨⟨setL cs (len * ti.size) ds⟩,e1⟩:=by
    refine Hp.eq (fun id=>?_) rfl
    simp only [Hp.hide,Hp.set]
    by_cases e:id=j
    ·subst e;simp [hv2]
    ·rw [if_neg e,if_neg e]
   have hmb:(h.den.hide (hidR B.n π (recIE k j i))).m j=some ⟨⟨cs⟩,e1⟩:=by
    simp only [Hp.hide,hv2]
    exact SH.m_base w hbj
   have hml:(h.den.hide (hidR B.n π (recIE k j i))).m (π i)=some ⟨⟨ds⟩,e2⟩:=by
    have hb1:¬ π i < B.n:=Nat.not_lt.2 (w.lo i hik')
    have:hidR B.n π (recIE k j i) (π i)=false:=by
     simp only [hidR,recIE,if_neg hb1,idx_at w.inj hik']
     simp [memL]
    simp only [Hp.hide,this]
    exact (SH.m_loc w hik').trans hbi
   have hsrc:srcCells (h.den.hide (hidR B.n π (recIE k j i))) ti.size 1 (a.eval y)=some ⟨ds⟩:=by
    rw [g.ev hy]
    simp only [srcCells,hml]
    rw [if_pos ⟨trivial,by simp [hn]⟩]
    congr 1
    apply Array.ext'
    simp [hn]
    exact List.take_of_length_le (Nat.le_of_eq hn)
   have:=TX.appendIn (P:=P) (o:=⟨some d,.call { callee:=.builtin .append,args:=#[x,y],argTypes:=#[t,t] },ty,pos,af,gd⟩) (ev:=a.eval) (h:=h.den.hide (hidR B.n π (recIE k j i))) (a:=⟨j,0,none⟩) (len:=len) (cap:=capOf ti.size) (n:=1) (b:=⟨⟨cs⟩,e1⟩) (new:=⟨ds⟩) rfl hu.eq hu.eq rfl hi (blt_iff.1 hp0) (g.ev hx) rfl hjr (.inl rfl) hmb (by simpa using hcs) (by rw [g.ev hy];rfl) hsrc (by simp [hn]) (by simpa using hone)
   simp only [setFrom_eq,Nat.zero_add] at this
   show TX P _ a.eval (h.den.hide (hidR B.n π (recIE k j i))) _ ((h.den.set j ⟨⟨setL cs (len * ti.size) ds⟩,e1⟩).hide (hidR B.n π (recIE k j i)))
   rw [e0]
   exact this
  ·rw [← SH.set_base w hjn]
   simp only [Hp.set]
   have:id≠j:=fun e=>by
    have h4:effR B.n π (recIE k j i) id=true:=heff.2 ⟨by rw [e];exact hjn,e⟩
    have he:effR B.n π (recIE k j i) id=false:=he
    rw [h4] at he;cases he
   rw [if_neg this]
  ·have he:effR B.n π (recIE k j i) id=true:=he
   obtain ⟨_,rfl⟩:=heff.1 he
   exact hv2
  ·rw [← SH.set_base w hjn]
   simp only [Hp.set]
   by_cases e:id=j
   ·subst e
    have hnn:h.den.m id=none:=hnn
    rw [SH.m_base (h:=h) w hbj] at hnn;cases hnn
   ·rw [if_neg e];exact hnn
end
end Go.AH
namespace Go.AH
variable {P:Program}
section
variable {ops:Array Oper} {draw:Bool} {rs:List Rk} {l:List Oper} {fl:List (Nat × Value)} {nt:Nat} {B:Hp} {π:Nat→Nat} {k:Nat} {hl:List (Nat × Option Blk)} {K:Fr→SH→Prop} {d:Tmp} {ty:TypeId} {pos:String} {af:Array Edge} {gd:Option (Nat × Bool)}
end
end Go.AH
