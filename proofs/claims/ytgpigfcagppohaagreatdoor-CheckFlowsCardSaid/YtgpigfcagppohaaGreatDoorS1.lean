/-
  Walking through code with a list of known values and blocks;it holds of any program whose types are as told.
-/
import Derived.ChangeKeysEq
import Derived.Lib.Strings
import Derived.Test.YtgpigfcagppohaaGreatDoorA1
set_option linter.unusedVariables false
set_option linter.unusedSimpArgs false
namespace Go.AH
structure Fr where
 l:List (Nat × Value)
 nt:Nat
def findV:List (Nat × Value)→Nat→Option Value
 | [],_=>none
 | (a,v)::l,t=>bif Nat.beq a t then some v else findV l t
def Fr.get (f:Fr) (t:Nat):Option Value:=findV f.l t
class Pend where
 D:List Deferred
instance (priority:=low) noPend:Pend:=⟨[]⟩
structure Agr [Pend] (f:Fr) (a:Act):Prop where
 size:a.tmps.size=f.nt
 defers:a.defers=Pend.D
 get:∀ t v,f.get t=some v→a.tmps[t]?=some v
def Fr.ev (f:Fr):Operand→Option Value
 | .tmp t=>findV f.l t
 | .const v=>some v
 | .global g=>some (.pointer (some ⟨g,0,none⟩))
 | .func g=>some (.func (.func g) #[] #[])
theorem Agr.ev [Pend] {f:Fr} {a:Act} (h:Agr f a) {x:Operand} {v:Value} (hx:f.ev x=some v):a.eval x=v:=by
 cases x with
 | tmp t =>
  have:=h.get t v hx
  simp [Act.eval,Array.getD_eq_getD_getElem?,this]
 | const u=>simpa [Fr.ev,Act.eval] using hx
 | global g=>simpa [Fr.ev,Act.eval] using hx
 | func g=>simpa [Fr.ev,Act.eval] using hx
theorem find_cons (p:Nat × Value) (l:List (Nat × Value)) (t:Nat):findV (p::l) t=if p.1=t then some p.2 else findV l t:=by
 obtain ⟨a,v⟩:=p
 show (bif Nat.beq a t then some v else findV l t)=if a=t then some v else findV l t
 by_cases h:a=t
 ·subst h;simp
 ·rw [if_neg h]
  cases hb:Nat.beq a t with
  | false=>rfl
  | true=>exact absurd (Nat.eq_of_beq_eq_true hb) h
def Fr.put (f:Fr) (d:Option Tmp) (v:Value):Fr:=match d with
 | some d=>{ f with l:=(d,v)::f.l }
 | none=>f
def okDst (nt:Nat):Option Tmp→Bool
 | some d=>Nat.blt d nt
 | none=>true
theorem Agr.put [Pend] {f:Fr} {a:Act} (h:Agr f a) {d:Option Tmp} (hd:okDst f.nt d=true) (v:Value):Agr (f.put d v) (a.put d v):=by
 cases d with
 | none=>exact h
 | some d =>
  have hlt:d < f.nt:=blt_iff.1 hd
  refine ⟨by simp [Act.put,Fr.put,h.size],by simp [Act.put,h.defers],fun t u hu=>?_⟩
  simp only [Fr.put,Fr.get,find_cons] at hu
  simp only [Act.put,Array.getElem?_setIfInBounds,h.size]
  by_cases e:d=t
  ·rw [if_pos e] at hu;subst e;simpa [hlt] using hu
  ·rw [if_neg e] at hu ⊢;exact h.get t u hu
theorem Agr.weak [Pend] {f f':Fr} {a:Act} (h:Agr f a) (hn:f'.nt=f.nt) (hw:∀ t v,f'.get t=some v→f.get t=some v):Agr f' a :=
 ⟨by rw [hn];exact h.size,h.defers,fun t v hv=>h.get t v (hw t v hv)⟩
def lookB:List (Nat × Option Blk)→Nat→Option Blk
 | [],_=>none
 | (a,b)::l,i=>bif Nat.beq a i then b else lookB l i
theorem look_cons (p:Nat × Option Blk) (l:List (Nat × Option Blk)) (t:Nat):lookB (p::l) t=if p.1=t then p.2 else lookB l t:=by
 obtain ⟨a,b⟩:=p
 show (bif Nat.beq a t then b else lookB l t)=if a=t then b else lookB l t
 by_cases h:a=t
 ·subst h;simp
 ·rw [if_neg h]
  cases hb:Nat.beq a t with
  | false=>rfl
  | true=>exact absurd (Nat.eq_of_beq_eq_true hb) h
def idx (π:Nat→Nat):Nat→Nat→Option Nat
 | 0,_=>none
 | k+1,id=>if π k=id then some k else idx π k id
structure SH where
 base:Hp
 π:Nat→Nat
 k:Nat
 l:List (Nat × Option Blk)
def SH.den (h:SH):Hp where
 m id:=if id < h.base.n then h.base.m id else (idx h.π h.k id).bind (lookB h.l)
 n:=h.π h.k
structure SH.WF (h:SH):Prop where
 up:∀ i,h.k≤i→h.π (i+1)=h.π i+1
 lo:∀ i,i < h.k→h.base.n≤h.π i
 hi:∀ i,i < h.k→h.π i < h.π h.k
 inj:∀ i j,i < h.k→j < h.k→h.π i=h.π j→i=j
 bn:h.base.n≤h.π h.k
 bd:∀ i b,h.base.m i=some b→i < h.base.n
 bo:rwM≤h.base.n
theorem idx_none {π:Nat→Nat}:∀ {k id:Nat},(∀ i,i < k→π i≠id)→idx π k id=none:=by
 intro k
 induction k with
 | zero=>intro id _;rfl
 | succ k ih=>intro id h;rw [idx,if_neg (h k (by omega)),ih fun i hi=>h i (by omega)]
theorem idx_some {π:Nat→Nat}:∀ {k id i:Nat},idx π k id=some i→i < k∧π i=id:=by
 intro k
 induction k with
 | zero=>intro id i h;cases h
 | succ k ih =>
  intro id i h
  rw [idx] at h
  split at h
  ·injection h with h;subst h;exact ⟨by omega,by assumption⟩
  ·have:=ih h;exact ⟨by omega,this.2⟩
theorem idx_at {π:Nat→Nat}:∀ {k i:Nat},(∀ i j,i < k→j < k→π i=π j→i=j)→i < k→idx π k (π i)=some i:=by
 intro k
 induction k with
 | zero=>intro i _ h;omega
 | succ k ih =>
  intro i hinj hi
  rw [idx]
  by_cases e:i=k
  ·subst e;rw [if_pos rfl]
  ·rw [if_neg (fun h=>e (hinj k i (by omega) hi h).symm),ih (fun a b ha hb=>hinj a b (by omega) (by omega)) (by omega)]
section
variable {h:SH}
theorem SH.WF.mono (w:h.WF):∀ d,h.π (h.k+d)=h.π h.k+d:=by
 intro d
 induction d with
 | zero=>rfl
 | succ d ih=>have:=w.up (h.k+d) (by omega);rw [← Nat.add_assoc,this,ih];omega
theorem SH.m_loc (w:h.WF) {i:Nat} (hi:i < h.k):h.den.m (h.π i)=lookB h.l i:=by
 have:=w.lo i hi
 simp only [SH.den]
 rw [if_neg (by omega),idx_at w.inj hi];rfl
theorem SH.m_base (w:h.WF) {i:Nat} {b:Blk} (hb:h.base.m i=some b):h.den.m i=some b:=by
 have:=w.bd i b hb
 simp only [SH.den];rw [if_pos this,hb]
theorem SH.set_loc (w:h.WF) {i:Nat} (hi:i < h.k) (b:Blk):h.den.set (h.π i) b=({ h with l:=(i,some b)::h.l }:SH).den:=by
 refine Hp.eq (fun id=>?_) rfl
 simp only [Hp.set,SH.den]
 by_cases e:id=h.π i
 ·subst e
  have:=w.lo i hi
  rw [if_pos rfl,if_neg (by omega),idx_at w.inj hi]
  simp [look_cons]
 ·rw [if_neg e]
  split
  ·rfl
  ·cases hx:idx h.π h.k id with
   | none=>rfl
   | some j =>
    have:=idx_some hx
    have hne:i≠j:=fun e'=>by subst e';exact e this.2.symm
    simp [look_cons,hne]
theorem SH.kill_loc (w:h.WF) {i:Nat} (hi:i < h.k):h.den.kill (h.π i)=({ h with l:=(i,none)::h.l }:SH).den:=by
 refine Hp.eq (fun id=>?_) rfl
 simp only [Hp.kill,SH.den]
 by_cases e:id=h.π i
 ·subst e
  have:=w.lo i hi
  rw [if_pos rfl,if_neg (by omega),idx_at w.inj hi]
  simp [look_cons]
 ·rw [if_neg e]
  split
  ·rfl
  ·cases hx:idx h.π h.k id with
   | none=>rfl
   | some j =>
    have:=idx_some hx
    have hne:i≠j:=fun e'=>by subst e';exact e this.2.symm
    simp [look_cons,hne]
theorem SH.set_base (_w:h.WF) {i:Nat} (hi:i < h.base.n) (b:Blk):h.den.set i b=({ h with base:=h.base.set i b }:SH).den:=by
 refine Hp.eq (fun id=>?_) rfl
 simp only [Hp.set,SH.den]
 by_cases e:id=i
 ·subst e;simp [hi]
 ·simp only [if_neg e]
theorem SH.push_den (w:h.WF) (b:Blk):h.den.push b=({ h with k:=h.k+1,l:=(h.k,some b)::h.l }:SH).den:=by
 have hu:=w.up h.k (Nat.le_refl _)
 refine Hp.eq (fun id=>?_) (by simp [Hp.push,SH.den,hu])
 have hb:=w.bn
 show (if id=h.π h.k then some b else (if id < h.base.n then h.base.m id else (idx h.π h.k id).bind (lookB h.l)))=(if id < h.base.n then h.base.m id else (if h.π h.k=id then some h.k else idx h.π h.k id).bind (lookB ((h.k,some b)::h.l)))
 by_cases e:id=h.π h.k
 ·rw [if_pos e,if_neg (show ¬ id < h.base.n by omega),if_pos e.symm];simp [look_cons]
 ·rw [if_neg e,if_neg (Ne.symm e)]
  split
  ·rfl
  ·cases hx:idx h.π h.k id with
   | none=>rfl
   | some j =>
    have:=idx_some hx
    have hne:h.k≠j:=by omega
    simp [look_cons,hne]
theorem SH.WF.setL (w:h.WF) (l:List (Nat × Option Blk)):({ h with l:=l }:SH).WF:=⟨w.up,w.lo,w.hi,w.inj,w.bn,w.bd,w.bo⟩
theorem SH.WF.setB (w:h.WF) {i:Nat} (hi:i < h.base.n) (b:Blk):({ h with base:=h.base.set i b }:SH).WF :=
 ⟨w.up,w.lo,w.hi,w.inj,w.bn,fun j c hc=>by
  simp only [Hp.set] at hc ⊢
  by_cases e:j=i
  ·subst e;exact hi
  ·rw [if_neg e] at hc;exact w.bd j c hc,w.bo⟩
theorem SH.WF.push (w:h.WF) (l:List (Nat × Option Blk)):({ h with k:=h.k+1,l:=l }:SH).WF:=by
 have hu:=w.up h.k (Nat.le_refl _)
 have hb:=w.bn
 refine ⟨fun i hi=>w.up i (by simp only at hi;omega),fun i hi=>?_,fun i hi=>?_,fun i j hi hj e=>?_,by simp only [hu];omega,w.bd,w.bo⟩
 ·simp only at hi ⊢
  by_cases e:i=h.k
  ·subst e;exact hb
  ·exact w.lo i (by omega)
 ·simp only [hu] at hi ⊢
  by_cases e:i=h.k
  ·subst e;omega
  ·have:=w.hi i (by omega);omega
 ·simp only at hi hj e
  by_cases e1:i=h.k<;>by_cases e2:j=h.k
  ·omega
  ·have:=w.hi j (by omega);subst e1;omega
  ·have:=w.hi i (by omega);subst e2;omega
  ·exact w.inj i j (by omega) (by omega) e
end
def SH.of (h:Hp):SH:={ base:=h,π:=fun i=>h.n+i,k:=0,l:=[] }
theorem SH.of_wf {h:Hp} (ho:rwM≤h.n) (hd:∀ i b,h.m i=some b→i < h.n):(SH.of h).WF :=
 ⟨fun i _=>by simp only [SH.of];omega,fun i hi=>by simp only [SH.of] at hi;omega,fun i hi=>by simp only [SH.of] at hi;omega,fun i j hi=>by simp only [SH.of] at hi;omega,by simp [SH.of],hd,ho⟩
theorem SH.of_den {h:Hp} (hd:∀ i b,h.m i=some b→i < h.n):(SH.of h).den=h:=by
 refine Hp.eq (fun id=>?_) (by simp [SH.of,SH.den])
 simp only [SH.of,SH.den,idx]
 split
 ·rfl
 ·cases hx:h.m id with
  | none=>rfl
  | some b=>have:=hd id b hx;omega
end Go.AH
namespace Go.AH
variable {P:Program} {ops:Array Oper}
def memL (i:Nat):List Nat→Bool
 | []=>false
 | j::l=>bif Nat.beq i j then true else memL i l
theorem memL_iff {i:Nat}:∀ {l:List Nat},memL i l=true↔i∈l:=by
 intro l
 induction l with
 | nil=>simp [memL]
 | cons a l ih =>
  show (bif Nat.beq i a then true else memL i l)=true↔_
  cases hb:Nat.beq i a with
  | true=>have:=Nat.eq_of_beq_eq_true hb;simp [this]
  | false =>
   have hne:i≠a:=fun h=>by subst h;simp at hb
   simp [ih,hne]
structure Rk where
 vb:Bool
 vl:List Nat
 k:Nat
 k':Nat
 w:List Nat
 wb:Bool
 nv:Option (List Nat)
 cn:Option (List Nat)
 sb:Option (Nat→Bool):=none
 eb:Option (Nat→Bool):=none
 st:Option (Nat × Nat × Value):=none
 kp:Option (Nat × Nat × Value):=none
def onB (q:Option (Nat→Bool)) (id:Nat):Bool:=match q with
 | some q=>q id
 | none=>false
@[simp] theorem onB_none (id:Nat):onB none id=false:=rfl
@[simp] theorem onB_some (q:Nat→Bool) (id:Nat):onB (some q) id=q id:=rfl
def hidR (n0:Nat) (π:Nat→Nat) (r:Rk) (id:Nat):Bool:=if id < n0 then !(r.vb || onB r.sb id) else match idx π r.k' id with
 | some i=>!(memL i r.vl || decide (r.k≤i))
 | none=>true
def effR (n0:Nat) (π:Nat→Nat) (r:Rk) (id:Nat):Bool:=if id < n0 then (r.wb || onB r.eb id) else match idx π r.k' id with
 | some i=>memL i r.w || decide (r.k≤i)
 | none=>false
def Nm (n0:Nat) (π:Nat→Nat) (l:List Nat) (v:Value):Prop:=ment (fun id=>id < n0∨∃ i∈l,id=π i) v
def NmO (n0:Nat) (π:Nat→Nat) (l:Option (List Nat)) (v:Value):Prop:=match l with
 | some l=>Nm n0 π l v
 | none=>True
structure RecR (h:SH) (r:Rk) (x:Inf):Prop where
 hid:x.hid=hidR h.base.n h.π r
 eff:x.eff=effR h.base.n h.π r
 k:x.h.n=h.π r.k
 k':x.h'.n=h.π r.k'
 kk:r.k≤r.k'
 ki:∀ i,i < r.k→h.π i < h.π r.k
 ku:∀ i,r.k≤i→h.π (i+1)=h.π i+1
 kj:∀ i j,i < r.k'→j < r.k'→h.π i=h.π j→i=j
 bv:bnd x.h'.n x.v
 bc:∀ id b,x.h'.m id=some b→∀ v∈b.cells,bnd x.h'.n v
 nv:NmO h.base.n h.π r.nv x.v
 cn:∀ id b,x.eff id=true→x.h'.m id=some b→∀ v∈b.cells,NmO h.base.n h.π r.cn v
 st:x.sta=r.st.map fun q=>(q.1,q.2.1)
 sv:∀ q,r.st=some q→q.1 < h.base.n∧x.v=q.2.2
 kp:∀ q,r.kp=some q→StC x.h' q.1 q.2.1 q.2.2
def outR (x:Rk) (i:Nat):Bool:=Nat.blt i x.k || Nat.ble x.k' i
def outO (x:Rk):Option (List Nat)→Bool
 | some l=>l.all (outR x)
 | none=>false
def rangeL:Nat→Nat→List Nat
 | 0,_=>[]
 | d+1,i=>i::rangeL d (i+1)
def noneB (q:Option (Nat→Bool)):Bool:=match q with
 | some _=>false
 | none=>true
def SideX (x y:Rk):Prop:=∀ e q,x.eb=some e→y.sb=some q→∀ id,e id=true→q id=false
def StaX (x y:Rk):Prop:=(∀ q,x.st=some q→(y.wb=false∧onB y.eb q.1=false)∨y.kp=some q)∧∀ q,y.st=some q→x.wb=false∧onB x.eb q.1=false
def noSt:List Rk→Bool
 | []=>true
 | r::rs=>(match r.st with|some _=>false|none=>true) && noSt rs
theorem noSt_mem:∀ {rs:List Rk},noSt rs=true→∀ x∈rs,x.st=none:=by
 intro rs
 induction rs with
 | nil=>intro _ x hx;cases hx
 | cons r rs ih =>
  intro h x hx
  simp only [noSt,Bool.and_eq_true] at h
  rcases List.mem_cons.1 hx with e|e
  ·subst e
   cases hs:x.st with
   | none=>rfl
   | some q=>rw [hs] at h;cases h.1
  ·exact ih h.2 x e
theorem noSt_side {rs:List Rk} (h:noSt rs=true):∀ x∈rs,∀ y∈rs,StaX x y:=fun x hx y hy =>
 ⟨(fun q hq=>by rw [noSt_mem h x hx] at hq;cases hq),fun q hq=>by rw [noSt_mem h y hy] at hq;cases hq⟩
def crossB (x y:Rk):Bool:=((!x.wb || (!y.vb && noneB y.sb)) && (noneB x.eb || !y.vb)) && (y.vl.all (fun j=>!(memL j x.w) && (Nat.blt j x.k || Nat.ble x.k' j)) && (Nat.beq y.k y.k' || (x.w.all (outR y) && (Nat.ble x.k' y.k || Nat.ble y.k' x.k || Nat.beq x.k x.k'))))
def pairR (x y:Rk):Bool:=crossB x y && crossB y x && Nat.ble x.k' y.k && (Nat.beq x.k x.k' || (outO x y.nv && outO x y.cn))
theorem crossB_ok {h:SH} {rx ry:Rk} {x y:Inf} (hx:RecR h rx x) (hy:RecR h ry y) (hc:crossB rx ry=true) (hs:SideX rx ry):∀ id,x.eff id=true→y.hid id=true:=by
 intro id he
 simp only [crossB,Bool.and_eq_true] at hc
 obtain ⟨h1,h2⟩:=hc
 rw [hx.eff] at he
 rw [hy.hid]
 unfold effR at he
 unfold hidR
 by_cases hlt:id < h.base.n
 ·rw [if_pos hlt] at he ⊢
  obtain ⟨h11,h12⟩:=h1
  cases hb:rx.wb with
  | true =>
   rw [hb] at h11
   simp only [Bool.not_true,Bool.false_or,Bool.and_eq_true,Bool.not_eq_true'] at h11
   obtain ⟨h3,h4⟩:=h11
   cases hq:ry.sb with
   | none=>simp [h3]
   | some q=>rw [hq] at h4;cases h4
  | false =>
   rw [hb] at he
   cases heb:rx.eb with
   | none=>rw [heb] at he;simp at he
   | some e =>
    rw [heb] at h12 he
    have h5:ry.vb=false:=by simpa [noneB] using h12
    cases hq:ry.sb with
    | none=>simp [h5]
    | some q =>
     have:=hs e q heb hq id (by simpa using he)
     simp [h5,this]
 ·rw [if_neg hlt] at he ⊢
  cases hi:idx h.π rx.k' id with
  | none=>rw [hi] at he;simp at he
  | some i =>
   rw [hi] at he
   simp only [Bool.or_eq_true,decide_eq_true_eq] at he
   obtain ⟨g1,g2⟩:=idx_some hi
   obtain ⟨h3,h4⟩:=h2
   cases hj:idx h.π ry.k' id with
   | none=>rfl
   | some j =>
    obtain ⟨q1,q2⟩:=idx_some hj
    have hij:j=i:=by
     rcases Nat.lt_or_ge i ry.k' with hlt'|hge
     ·exact hy.kj j i q1 hlt' (by rw [q2,g2])
     ·rcases Nat.lt_or_ge j rx.k' with hl2|hg2
      ·exact hx.kj j i hl2 g1 (by rw [q2,g2])
      ·omega
    subst hij
    have hv:memL j ry.vl=false:=by
     cases hm:memL j ry.vl with
     | false=>rfl
     | true =>
      have:=List.all_eq_true.1 h3 j (memL_iff.1 hm)
      simp only [Bool.and_eq_true,Bool.not_eq_true',Bool.or_eq_true] at this
      obtain ⟨t1,t2⟩:=this
      rcases he with he|he
      ·rw [he] at t1;cases t1
      ·rcases t2 with t2|t2
       ·have:=blt_iff.1 t2;omega
       ·have:=ble_iff.1 t2;omega
    have hk:¬ ry.k≤j:=by
     intro hk
     rw [Bool.or_eq_true] at h4
     rcases h4 with h5|h5
     ·have:=Nat.eq_of_beq_eq_true h5;omega
     ·rw [Bool.and_eq_true] at h5
      obtain ⟨h6,h7⟩:=h5
      rcases he with he|he
      ·have:=List.all_eq_true.1 h6 j (memL_iff.1 he)
       simp only [outR,Bool.or_eq_true] at this
       rcases this with t|t
       ·have:=blt_iff.1 t;omega
       ·have:=ble_iff.1 t;omega
      ·rw [Bool.or_eq_true,Bool.or_eq_true] at h7
       rcases h7 with (t|t)|t
       ·have:=ble_iff.1 t;omega
       ·have:=ble_iff.1 t;omega
       ·have:=Nat.eq_of_beq_eq_true t;omega
    simp [hv,hk]
theorem staR_ok {h:SH} {rx ry:Rk} {x y:Inf} (hx:RecR h rx x) (hy:RecR h ry y) (hs:StaX rx ry):StaOK x y:=by
 refine ⟨fun b c hb he=>?_,fun b c hb=>?_⟩
 ·rw [hx.st] at hb
  cases hq:rx.st with
  | none=>rw [hq] at hb;cases hb
  | some q =>
   rw [hq] at hb
   simp only [Option.map_some,Option.some.injEq,Prod.mk.injEq] at hb
   obtain ⟨rfl,rfl⟩:=hb
   obtain ⟨t1,t2⟩:=hx.sv q hq
   rcases hs.1 q hq with ⟨g1,g2⟩|g
   ·rw [hy.eff] at he
    unfold effR at he
    rw [if_pos t1,g1,g2] at he;cases he
   ·rw [t2];exact hy.kp q g
 ·rw [hy.st] at hb
  cases hq:ry.st with
  | none=>rw [hq] at hb;cases hb
  | some q =>
   rw [hq] at hb
   simp only [Option.map_some,Option.some.injEq,Prod.mk.injEq] at hb
   obtain ⟨rfl,rfl⟩:=hb
   obtain ⟨t1,t2⟩:=hy.sv q hq
   obtain ⟨g1,g2⟩:=hs.2 q hq
   rw [hx.eff]
   unfold effR
   rw [if_pos t1,g1,g2];rfl
theorem out_names {h:SH} {rx:Rk} {x:Inf} (hx:RecR h rx x) {l:Option (List Nat)} (ho:outO rx l=true) {v:Value} (hv:NmO h.base.n h.π l v) (hb:h.base.n≤h.π rx.k):ment (fun id=>¬ inR x id) v:=by
 cases l with
 | none=>cases ho
 | some l =>
  have key:∀ id,(id < h.base.n∨∃ i∈l,id=h.π i)→¬ inR x id:=by
   rintro id hid ⟨h1,h2⟩
   rw [hx.k] at h1
   rw [hx.k'] at h2
   rcases hid with hid|⟨i,hi,rfl⟩
   ·omega
   ·have:=List.all_eq_true.1 ho i hi
    simp only [outR,Bool.or_eq_true] at this
    rcases this with h3|h3
    ·have:=hx.ki i (blt_iff.1 h3);omega
    ·have h3:=ble_iff.1 h3
     have mono:∀ d,h.π (rx.k'+d)=h.π rx.k'+d:=by
      intro d
      induction d with
      | zero=>rfl
      | succ d ih=>have:=hx.ku (rx.k'+d) (by have:=hx.kk;omega);rw [← Nat.add_assoc,this,ih];omega
     have:=mono (i - rx.k')
     rw [show rx.k'+(i - rx.k')=i by omega] at this
     omega
  have mm:∀ v,ment (fun id=>id < h.base.n∨∃ i∈l,id=h.π i) v→ment (fun id=>¬ inR x id) v:=by
   intro v
   induction v using ment.induct with
   | case1 a=>intro hm;rw [ment] at hm ⊢;exact key _ hm
   | case2 a _ _=>intro hm;rw [ment] at hm ⊢;exact key _ hm
   | case3 r=>intro hm;rw [ment] at hm ⊢;exact key _ hm
   | case4 r=>intro hm;rw [ment] at hm ⊢;exact key _ hm
   | case5 fn f c ih1 ih2=>intro hm;rw [ment] at hm ⊢;exact ⟨fun v hv=>ih1 v hv (hm.1 v hv),fun v hv=>ih2 v hv (hm.2 v hv)⟩
   | case6 t v ih=>intro hm;rw [ment] at hm ⊢;exact ih hm
   | case7 cs ih=>intro hm;rw [ment] at hm ⊢;exact fun v hv=>ih v hv (hm v hv)
   | case8 cs ih=>intro hm;rw [ment] at hm ⊢;exact fun v hv=>ih v hv (hm v hv)
   | case9 v=>intro _;rw [ment]<;>simp_all
  exact mm v hv
theorem pairR_ok {h:SH} {rx ry:Rk} {x y:Inf} (hb:h.base.n≤h.π rx.k) (hx:RecR h rx x) (hy:RecR h ry y) (hp:pairR rx ry=true) (s1:SideX rx ry) (s2:SideX ry rx):PairDyn x y∧PairDyn y x:=by
 simp only [pairR,Bool.and_eq_true] at hp
 obtain ⟨⟨⟨c1,c2⟩,c3⟩,c4⟩:=hp
 have c3:=ble_iff.1 c3
 have hle:x.h'.n≤y.h.n:=by
  rw [hx.k',hy.k]
  rcases Nat.lt_or_ge rx.k' ry.k with hlt|hge
  ·exact Nat.le_of_lt (hy.ki _ hlt)
  ·have:rx.k'=ry.k:=by omega
   rw [this];exact Nat.le_refl _
 refine ⟨⟨crossB_ok hx hy c1 s1,?_,fun id b _ hbb v hv=>?_⟩,⟨crossB_ok hy hx c2 s2,?_,fun id b he hbb v hv=>?_⟩⟩
 ·exact ment_of_bnd (n:=x.h'.n) (fun i hi hr=>by have:=hr.1;omega) _ hx.bv
 ·exact ment_of_bnd (n:=x.h'.n) (fun i hi hr=>by have:=hr.1;omega) _ (hx.bc id b hbb v hv)
 ·rcases Bool.or_eq_true _ _ ▸ c4 with c5|c5
  ·have e:=Nat.eq_of_beq_eq_true c5
   refine ment_of_bnd (n:=y.h'.n) (fun i _ hr=>?_) _ hy.bv
   have h1:=hr.1;have h2:=hr.2;rw [hx.k] at h1;rw [hx.k',← e] at h2;omega
  ·simp only [Bool.and_eq_true] at c5
   exact out_names hx c5.1 hy.nv hb
 ·rcases Bool.or_eq_true _ _ ▸ c4 with c5|c5
  ·have e:=Nat.eq_of_beq_eq_true c5
   refine ment_of_bnd (n:=y.h'.n) (fun i _ hr=>?_) _ (hy.bc id b hbb v hv)
   have h1:=hr.1;have h2:=hr.2;rw [hx.k] at h1;rw [hx.k',← e] at h2;omega
  ·simp only [Bool.and_eq_true] at c5
   exact out_names hx c5.2 (hy.cn id b he hbb v hv) hb
end Go.AH
namespace Go.AH
variable {P:Program} {ops:Array Oper}
def pairsOne (m:Nat) (y:Rk):List Rk→Nat→Bool
 | [],_=>true
 | x::l,i=>(bitN m i || pairR x y) && pairsOne m y l (i+1)
where bitN (m i:Nat):Bool:=Nat.beq (Nat.mod (Nat.shiftRight m i) 2) 1
def pairsAll (all:List Rk):List Rk→List Nat→Nat→Bool
 | y::l,m::ms,j=>pairsOne m y (all.take j) 0 && pairsAll all l ms (j+1)
 | _,_,_=>true
noncomputable def finalChk (P:Program) (ops:Array Oper) (rs:List Rk):Bool:=match planD P ops with
 | some l=>pairsAll rs.reverse rs.reverse (l.map (·.2)) 0
 | none=>false
def plainR:List Rk→Bool
 | []=>true
 | r::rs=>noneB r.eb && (match r.st with|some _=>false|none=>true) && plainR rs
theorem plainR_st:∀ {rs:List Rk},plainR rs=true→noSt rs=true:=by
 intro rs
 induction rs with
 | nil=>intro _;rfl
 | cons r rs ih =>
  intro h
  simp only [plainR,Bool.and_eq_true] at h
  simp only [noSt,Bool.and_eq_true]
  exact ⟨h.1.2,ih h.2⟩
noncomputable def statB (P:Program) (ops:Array Oper) (draw:Bool) (rs:List Rk):Bool:=match draw with
 | true=>finalChk P ops rs && plainR rs
 | false=>true
theorem plainR_side:∀ {rs:List Rk},plainR rs=true→∀ x∈rs,∀ y∈rs,SideX x y:=by
 intro rs h x hx y _ e q he
 have:∀ {rs:List Rk},plainR rs=true→∀ x∈rs,noneB x.eb=true:=by
  intro rs
  induction rs with
  | nil=>intro _ x hx;cases hx
  | cons r rs ih =>
   intro h x hx
   simp only [plainR,Bool.and_eq_true] at h
   rcases List.mem_cons.1 hx with e|e
   ·subst e;exact h.1.1
   ·exact ih h.2 x e
 have:=this h x hx
 rw [he] at this;cases this
theorem pairsOne_ok {m:Nat} {y:Rk}:∀ {l:List Rk} {k:Nat},pairsOne m y l k=true→∀ i x,l[i]?=some x→bitB m (k+i)=false→pairR x y=true:=by
 intro l
 induction l with
 | nil=>intro k _ i x hx;simp at hx
 | cons z l ih =>
  intro k hp i x hx hb
  simp only [pairsOne,Bool.and_eq_true,Bool.or_eq_true] at hp
  cases i with
  | zero =>
   simp only [List.getElem?_cons_zero,Option.some.injEq] at hx
   subst hx
   rcases hp.1 with h1|h1
   ·exact absurd h1 (by rw [Nat.add_zero] at hb;show ¬ bitB m k=true;rw [hb];simp)
   ·exact h1
  | succ i =>
   exact ih hp.2 i x (by simpa using hx) (by rw [show k+1+i=k+(i+1) by omega];exact hb)
theorem pairsAll_ok {all:List Rk}:∀ {l:List Rk} {ms:List Nat} {j:Nat},pairsAll all l ms j=true→∀ i y m,l[i]?=some y→ms[i]?=some m→pairsOne m y (all.take (j+i)) 0=true:=by
 intro l
 induction l with
 | nil=>intro ms j _ i y m hy;simp at hy
 | cons z l ih =>
  intro ms j hp i y m hy hm
  cases ms with
  | nil=>simp at hm
  | cons m0 ms =>
   simp only [pairsAll,Bool.and_eq_true] at hp
   cases i with
   | zero =>
    simp only [List.getElem?_cons_zero,Option.some.injEq] at hy hm
    subst hy;subst hm
    exact hp.1
   | succ i =>
    have:=ih hp.2 i y m (by simpa using hy) (by simpa using hm)
    rw [show j+1+i=j+(i+1) by omega] at this
    exact this
structure Pre [Pend] (P:Program) (ops:Array Oper) (draw:Bool) (rs:List Rk) (l:List Oper) (xs:List Inf) (a0:Act) (h0:Hp) (a:Act) (f:Fr) (h:SH):Prop where
 chain:chainI xs a0 h0 a h.den
 os:xs.map (·.o)++l=ops.toList
 ok:∀ x∈xs,x.OK P ops
 len:rs.length=xs.length
 told:draw=true→∀ (i:Nat) (r:Rk) (x:Inf),rs.reverse[i]?=some r→xs[i]?=some x→RecR h r x∧h.base.n≤h.π r.k
 wf:h.WF
 sat:Sat P h.den
 bnd:bndA h.den.n a
 agr:Agr f a
 oks:okOpsB P.globals.size ops=true
def RS [Pend] (P:Program) (ops:Array Oper) (draw:Bool) (rs:List Rk) (l:List Oper) (f:Fr) (h:SH) (K:Fr→SH→Prop):Prop :=
 ∀ xs a0 h0 a,Pre P ops draw rs l xs a0 h0 a f h→∃ f' h' a',K f' h'∧h'.WF∧Sat P h'.den∧bndA h'.den.n a'∧Agr f' a'∧∀ id,TC P (.region id ops draw) a0 h0 .normal a' h'.den
theorem chain_snoc {x:Inf}:∀ {l:List Inf} {a a':Act} {h h':Hp},chainI l a h a' h'→x.a=a'→x.h=h'→chainI (l++[x]) a h (a'.put x.o.dst x.v) x.h':=by
 intro l
 induction l with
 | nil=>intro a a' h h' hc e1 e2;obtain ⟨rfl,rfl⟩:=hc;exact ⟨e1,e2,rfl,rfl⟩
 | cons y l ih=>intro a a' h h' hc e1 e2;exact ⟨hc.1,hc.2.1,ih hc.2.2 e1 e2⟩
theorem runOps_of {l:List Inf}:∀ {a a':Act} {h h':Hp} (k:Nat),chainI l a h a' h'→(∀ x∈l,x.OK P ops)→(∀ (i:Nat) (x:Inf),l[i]?=some x→ops[k+i]?=some x.o)→RunOps P ops ((List.range l.length).map (k+·)) a h a' h':=by
 induction l with
 | nil=>intro a a' h h' k hc _ _;obtain ⟨rfl,rfl⟩:=hc;exact RunOps.nil _ _
 | cons x l ih =>
  intro a a' h h' k hc hok ho
  obtain ⟨rfl,rfl,hc⟩:=hc
  have hrange:(List.range (x::l).length).map (k+·)=k::(List.range l.length).map ((k+1)+·):=by
   simp only [List.length_cons,List.range_succ_eq_map,List.map_cons,List.map_map]
   congr 1
   refine List.map_congr_left fun i _=>?_
   simp only [Function.comp_apply];omega
  rw [hrange]
  have h0:ops[k]?=some x.o:=by simpa using ho 0 x rfl
  have hr:=ih (k+1) hc (fun y hy=>hok y (by simp [hy])) (fun i y hy=>by
   have:=ho (i+1) y (by simpa using hy)
   rw [show k+1+i=k+(i+1) by omega];exact this)
  have hx:=hok x (by simp)
  rcases hx.step with ⟨hw,hv,hh⟩|⟨hw,hk,ht⟩|⟨hw,hk,hh,_,b,c,_,hst,ht⟩
  ·rw [hv,hh] at hr
   exact RunOps.skip h0 hw hr
  ·refine RunOps.run h0 hw hk (ht.frame x.hid fun i hi=>?_) hr
   cases he:x.eff i with
   | false=>exact hx.effs i he
   | true=>rw [hx.ehid i he] at hi;cases hi
  ·rw [hh] at hr
   exact RunOps.run h0 hw hk (ht _ hst) hr
theorem RS.nilG [Pend] {draw:Bool} {rs:List Rk} {f:Fr} {h:SH} {K:Fr→SH→Prop} (hm:P.follows .mixedOrders=true) (hs:draw=true→finalChk P ops rs=true) (hside:draw=true→∀ x∈rs,∀ y∈rs,SideX x y) (hsta:draw=true→∀ l,planD P ops=some l→∀ i j (o:Oper) m x y,l[j]?=some (o,m)→bitB m i=false→i < j→rs.reverse[i]?=some x→rs.reverse[j]?=some y→StaX x y) (hk:K f h):RS P ops draw rs [] f h K:=by
 intro xs a0 h0 a p
 refine ⟨f,h,a,hk,p.wf,p.sat,p.bnd,p.agr,fun id=>?_⟩
 have hmap:xs.map (·.o)=ops.toList:=by simpa using p.os
 have hxl:xs.length=ops.size:=by rw [← Array.length_toList,← hmap,List.length_map]
 cases draw with
 | false =>
  have hr:=runOps_of (P:=P) (ops:=ops) 0 p.chain p.ok (fun i x hx=>by
   rw [Nat.zero_add,← Array.getElem?_toList,← hmap,List.getElem?_map,hx];rfl)
  rw [hxl] at hr
  have e1:(List.range ops.size).map (0+·)=List.range ops.size:=by simp
  rw [e1] at hr
  exact RunOps.region hr
 | true =>
  have hs:finalChk P ops rs=true:=hs rfl
  unfold finalChk at hs
  split at hs
  ·rename_i l hp
   have hpl:=hp
   unfold planD at hp
   split at hp
   ·rename_i ms hms
    obtain ⟨c1,hp⟩:=bif_some' hp
    obtain ⟨c2,hp⟩:=bif_some' hp
    simp only [Option.some.injEq] at hp
    obtain ⟨m1,m2⟩:=masksGo_ok (ops:=ops) (l:=ops.toList) (ms:=[]) (by intro i o ho;simpa using ho) (by simp) (fun j q hq=>by simp at hq) hms
    have hzip:∀ (j:Nat) (o:Oper) (m:Nat),l[j]?=some (o,m)→ops[j]?=some o∧ms[j]?=some m:=by
     intro j o m hj
     rw [← hp,List.getElem?_zip_eq_some] at hj
     simpa using hj
    have hlen:l.length=ops.size:=by rw [← hp,List.length_zip];simp [m1]
    refine region_of hm p.chain hmap (fun j i hd=>?_) p.ok (fun i j x y hij hx hy hna=>?_)
    ·obtain ⟨o,ho,hd'⟩:=hd
     have hj:j < ms.length:=by rw [m1];exact (Array.getElem?_eq_some_iff.1 ho).1
     exact (m2 j _ (List.getElem?_eq_getElem hj)).1 i ⟨o,ho,hd'⟩
    ·have hj:j < l.length:=by rw [hlen,← hxl];exact (List.getElem?_eq_some_iff.1 hy).1
     obtain ⟨om,hom⟩:∃ om,l[j]?=some om:=⟨_,List.getElem?_eq_getElem hj⟩
     obtain ⟨o,m⟩:=om
     obtain ⟨z1,z2⟩:=hzip j o m hom
     have hbit:bitB m i=false:=by
      cases hbm:bitB m i with
      | false=>rfl
      | true=>exact absurd ((m2 j m z2).2 i hbm) hna
     have hxo:ops.toList[i]?=some x.o:=by rw [← hmap,List.getElem?_map,hx];rfl
     have hyo:o=y.o:=by
      have:ops.toList[j]?=some y.o:=by rw [← hmap,List.getElem?_map,hy];rfl
      rw [Array.getElem?_toList,z1] at this;injection this
     have hsl:=slotsAll_ok c2 j o m (by rw [hp];exact hom)
     rw [Nat.zero_add] at hsl
     obtain ⟨s1,s2⟩:=slotsOne_ok hsl i x.o (by rw [List.getElem?_take,if_pos hij];exact hxo) (by rw [Nat.zero_add];exact hbit)
     rw [hyo] at s1 s2
     have hrl:rs.reverse.length=xs.length:=by rw [List.length_reverse,p.len]
     have hi1:i < xs.length:=(List.getElem?_eq_some_iff.1 hx).1
     have hj1:j < xs.length:=(List.getElem?_eq_some_iff.1 hy).1
     obtain ⟨rx,hrx⟩:∃ r,rs.reverse[i]?=some r:=⟨_,List.getElem?_eq_getElem (by omega)⟩
     obtain ⟨ry,hry⟩:∃ r,rs.reverse[j]?=some r:=⟨_,List.getElem?_eq_getElem (by omega)⟩
     obtain ⟨tx,txb⟩:=p.told rfl i rx x hrx hx
     obtain ⟨ty,_⟩:=p.told rfl j ry y hry hy
     have h1:=pairsAll_ok hs j ry m hry (by rw [List.getElem?_map,hom];rfl)
     rw [Nat.zero_add] at h1
     have h2:=pairsOne_ok h1 i rx (by rw [List.getElem?_take,if_pos hij];exact hrx) (by rw [Nat.zero_add];exact hbit)
     have mx:rx∈rs:=by simpa using List.mem_of_getElem? hrx
     have my:ry∈rs:=by simpa using List.mem_of_getElem? hry
     obtain ⟨d1,d2⟩:=pairR_ok txb tx ty h2 (hside rfl rx mx ry my) (hside rfl ry my rx mx)
     exact ⟨⟨⟨d1.cross,slotB_ok s1,d1.val,d1.cells⟩,⟨d2.cross,slotB_ok s2,d2.val,d2.cells⟩⟩,staR_ok tx ty (hsta rfl l hpl i j o m rx ry hom hbit hij hrx hry)⟩
   ·cases hp
  ·cases hs
theorem RS.nilX [Pend] {draw:Bool} {rs:List Rk} {f:Fr} {h:SH} {K:Fr→SH→Prop} (hm:P.follows .mixedOrders=true) (hs:draw=true→finalChk P ops rs=true) (hside:draw=true→∀ x∈rs,∀ y∈rs,SideX x y) (hk:K f h) (hno:noSt rs=true:=by rfl):RS P ops draw rs [] f h K :=
 RS.nilG hm hs hside (fun _ _ _ i j o m x y _ _ _ hx hy=>noSt_side hno x (by simpa using List.mem_of_getElem? hx) y (by simpa using List.mem_of_getElem? hy)) hk
theorem RS.nil [Pend] {draw:Bool} {rs:List Rk} {f:Fr} {h:SH} {K:Fr→SH→Prop} (hm:P.follows .mixedOrders=true) (hs:statB P ops draw rs=true) (hk:K f h):RS P ops draw rs [] f h K:=by
 cases draw with
 | false=>exact RS.nilG hm (fun h=>by cases h) (fun h=>by cases h) (fun h=>by cases h) hk
 | true =>
  have hs:(finalChk P ops rs && plainR rs)=true:=hs
  rw [Bool.and_eq_true] at hs
  exact RS.nilG hm (fun _=>hs.1) (fun _=>plainR_side hs.2) (fun _ _ _ i j o m x y _ _ _ hx hy=>noSt_side (plainR_st hs.2) x (by simpa using List.mem_of_getElem? hx) y (by simpa using List.mem_of_getElem? hy)) hk
structure One [Pend] (P:Program) (o:Oper) (f:Fr) (h:SH) (v:Value) (h':SH) (r:Rk):Prop where
 tx:h.WF→∀ a,Agr f a→TX P o a.eval (h.den.hide (hidR h.base.n h.π r)) v (h'.den.hide (hidR h.base.n h.π r))
 wf:h.WF→h'.WF
 bn:h'.base.n=h.base.n
 pi:h'.π=h.π
 k:h.k=r.k
 k':h'.k=r.k'
 kk:r.k≤r.k'
 effs:h.WF→∀ id,effR h.base.n h.π r id=false→h'.den.m id=h.den.m id
 ehid:h.WF→∀ id,effR h.base.n h.π r id=true→hidR h.base.n h.π r id=false
 fresh:h.WF→∀ id,id < h.den.n→h.den.m id=none→h'.den.m id=none
 nv:NmO h.base.n h.π r.nv v
 cn:h.WF→∀ id b,effR h.base.n h.π r id=true→h'.den.m id=some b→∀ v∈b.cells,NmO h.base.n h.π r.cn v
def wantB (ops:Array Oper) (o:Oper) (f:Fr):Option Bool:=match o.guard with
 | none=>some true
 | some (j,want)=>match ops.toList[j]? with
  | some q=>match q.dst with
   | some t=>match findV f.l t with
    | some (.bool b)=>some (match want with|true=>b|false=>!b)
    | some (.tuple _)=>some false
    | _=>none
   | none=>none
  | none=>none
theorem wantB_ok [Pend] {o:Oper} {f:Fr} {a:Act} (ha:Agr f a) {b:Bool} (h:wantB ops o f=some b):Region.wanted o (yielded ops a.tmps)=b:=by
 unfold wantB at h
 unfold Region.wanted
 cases hg:o.guard with
 | none=>rw [hg] at h;simpa using h
 | some jw =>
  obtain ⟨j,want⟩:=jw
  rw [hg] at h
  simp only [Array.getElem?_toList] at h
  simp only [yielded]
  cases hj:ops[j]? with
  | none=>rw [hj] at h;cases h
  | some q =>
   rw [hj] at h
   simp only [Option.bind_some] at h ⊢
   cases hd:q.dst with
   | none=>rw [hd] at h;cases h
   | some t =>
    rw [hd] at h
    simp only [Option.bind_some] at h ⊢
    split at h
    ·rename_i b' hb'
     rw [ha.get t _ hb']
     simp only [Option.some.injEq] at h
     subst h
     cases want<;>cases b'<;>rfl
    ·rename_i u hb'
     rw [ha.get t _ hb']
     simp only [Option.some.injEq] at h
     subst h
     cases want<;>rfl
    ·cases h
theorem RecR.later {h h':SH} {r:Rk} {x:Inf} (hr:RecR h r x) (e1:h'.base.n=h.base.n) (e2:h'.π=h.π):RecR h' r x:=by
 obtain ⟨a1,a2,a3,a4,a5,a6,a7,a8,a9,a10,a11,a12,a13,a14,a15⟩:=hr
 constructor<;>(try rw [e1])<;>(try rw [e2])<;>assumption
theorem told_snoc {rs:List Rk} {xs:List Inf} {h h':SH} (hl:rs.length=xs.length) (ht:∀ (i:Nat) (r:Rk) (x:Inf),rs.reverse[i]?=some r→xs[i]?=some x→RecR h r x∧h.base.n≤h.π r.k)
 (e1:h'.base.n=h.base.n) (e2:h'.π=h.π) {r:Rk} {x:Inf} (hr:RecR h' r x) (hb:h'.base.n≤h'.π r.k):∀ (i:Nat) (q:Rk) (y:Inf),(r::rs).reverse[i]?=some q→(xs++[x])[i]?=some y→RecR h' q y∧h'.base.n≤h'.π q.k:=by
 intro i q y hq hy
 rw [List.reverse_cons] at hq
 have hrl:rs.reverse.length=xs.length:=by rw [List.length_reverse,hl]
 by_cases hi:i < xs.length
 ·rw [List.getElem?_append_left (by omega)] at hq hy
  obtain ⟨h1,h2⟩:=ht i q y hq hy
  exact ⟨h1.later e1 e2,by rw [e1,e2];exact h2⟩
 ·rw [List.getElem?_append_right (by omega)] at hq hy
  have h0:i - xs.length=0:=by
   have:=(List.getElem?_eq_some_iff.1 hy).1
   simp at this;omega
  rw [hrl,h0] at hq
  rw [h0] at hy
  simp only [List.getElem?_cons_zero,Option.some.injEq] at hq hy
  subst hq;subst hy
  exact ⟨hr,hb⟩
theorem RS.stepG [Pend] {draw:Bool} {rs:List Rk} {o:Oper} {l:List Oper} {f:Fr} {h h':SH} {v:Value} {r:Rk} {K:Fr→SH→Prop} (hw:wantB ops o f=some true) (hd:okDst f.nt o.dst=true) (h1:One P o f h v h' r) (hst:r.st=none) (hkp:h'.WF→Sat P h'.den→∀ q,r.kp=some q→StC h'.den q.1 q.2.1 q.2.2)
 (hk:RS P ops draw (r::rs) l (f.put o.dst v) h' K):RS P ops draw rs (o::l) f h K:=by
 intro xs a0 h0 a p
 have hso:ops[xs.length]?=some o:=by
  rw [← Array.getElem?_toList,← p.os,List.getElem?_append_right (by simp)];simp
 have hopk:=okOpsB_ok p.oks hso
 have htx:=h1.tx p.wf a p.agr
 have heff:=h1.effs p.wf
 have hfr:TX P o a.eval h.den v h'.den:=htx.frame _ fun i hi=>by
  refine heff i ?_
  cases he:effR h.base.n h.π r i with
  | false=>rfl
  | true=>rw [h1.ehid p.wf i he] at hi;cases hi
 obtain ⟨s1,s2⟩:=TX.sat hfr hopk p.sat p.bnd
 have hmono:h.den.n≤h'.den.n:=by
  show h.π h.k≤h'.π h'.k
  rw [h1.pi,h1.k,h1.k',← h1.k]
  have:=p.wf.mono (r.k' - h.k)
  rw [show h.k+(r.k' - h.k)=r.k' by have:=h1.kk;have:=h1.k;omega] at this
  rw [this];exact Nat.le_add_right _ _
 let x:Inf:={ o:=o,a:=a,h:=h.den,v:=v,h':=h'.den,hid:=hidR h.base.n h.π r,eff:=effR h.base.n h.π r }
 have hrec:RecR h' r x:=by
  refine ⟨?_,?_,?_,?_,h1.kk,?_,?_,?_,s2,s1.bd,?_,?_,by rw [hst];rfl,(fun q hq=>by rw [hst] at hq;cases hq),fun q hq=>hkp (h1.wf p.wf) s1 q hq⟩
  ·show hidR h.base.n h.π r=_;rw [h1.bn,h1.pi]
  ·show effR h.base.n h.π r=_;rw [h1.bn,h1.pi]
  ·show h.π h.k=_;rw [h1.pi,h1.k]
  ·show h'.π h'.k=_;rw [h1.k']
  ·intro i hi;rw [h1.pi,← h1.k];exact p.wf.hi i (by rw [h1.k];exact hi)
  ·intro i hi;rw [h1.pi];exact p.wf.up i (by rw [h1.k];exact hi)
  ·have:=(h1.wf p.wf).inj;rw [h1.k'] at this;exact this
  ·rw [h1.bn,h1.pi];exact h1.nv
  ·intro id b he hb v hv
   rw [h1.bn,h1.pi]
   exact h1.cn p.wf id b he hb v hv
 have hput:Agr (f.put o.dst v) (a.put o.dst v):=p.agr.put hd v
 refine hk (xs++[x]) a0 h0 (a.put o.dst v) ⟨chain_snoc p.chain rfl rfl,?_,?_,?_,?_,h1.wf p.wf,s1,put_bnd (bndA_mono hmono p.bnd) _ s2,hput,p.oks⟩
 ·rw [List.map_append,List.append_assoc];exact p.os
 ·intro y hy
  rcases List.mem_append.1 hy with h2|h2
  ·exact p.ok y h2
  ·simp only [List.mem_singleton] at h2
   subst h2
   exact ⟨.inr (.inl ⟨wantB_ok p.agr hw,hopk,htx⟩),hmono,fun id hid hn=>h1.fresh p.wf id hid hn,heff,h1.ehid p.wf⟩
 ·simp [p.len]
 ·intro hdr
  refine told_snoc p.len (p.told hdr) h1.bn h1.pi hrec ?_
  rw [h1.bn,h1.pi,← h1.k];exact p.wf.bn
theorem RS.step [Pend] {draw:Bool} {rs:List Rk} {o:Oper} {l:List Oper} {f:Fr} {h h':SH} {v:Value} {r:Rk} {K:Fr→SH→Prop} (hw:wantB ops o f=some true) (hd:okDst f.nt o.dst=true) (h1:One P o f h v h' r)
 (hk:RS P ops draw (r::rs) l (f.put o.dst v) h' K) (hp:r.st=none∧r.kp=none:=by exact ⟨rfl,rfl⟩):RS P ops draw rs (o::l) f h K :=
 RS.stepG hw hd h1 hp.1 (fun _ _ q hq=>by rw [hp.2] at hq;cases hq) hk
def skipR (k:Nat):Rk:={ vb:=false,vl:=[],k:=k,k':=k,w:=[],wb:=false,nv:=some [],cn:=some [] }
theorem skip_eff {n0:Nat} {π:Nat→Nat} {k:Nat} (id:Nat):effR n0 π (skipR k) id=false:=by
 unfold effR skipR
 by_cases h:id < n0
 ·simp [h]
 ·simp only [h,if_false]
  cases hi:idx π k id with
  | none=>rfl
  | some i=>have:=(idx_some hi).1;simp [memL,this]
theorem Nm_undef {n0:Nat} {π:Nat→Nat} {l:List Nat}:Nm n0 π l undef:=by unfold Nm undef;rw [ment]<;>simp
theorem RS.skip [Pend] {draw:Bool} {rs:List Rk} {o:Oper} {l:List Oper} {f:Fr} {h:SH} {K:Fr→SH→Prop} (hw:wantB ops o f=some false) (hd:okDst f.nt o.dst=true)
 (hk:RS P ops draw (skipR h.k::rs) l (f.put o.dst undef) h K):RS P ops draw rs (o::l) f h K:=by
 intro xs a0 h0 a p
 let x:Inf:={ o:=o,a:=a,h:=h.den,v:=undef,h':=h.den,hid:=hidR h.base.n h.π (skipR h.k),eff:=effR h.base.n h.π (skipR h.k) }
 have hrec:RecR h (skipR h.k) x :=
  ⟨rfl,rfl,rfl,rfl,Nat.le_refl _,p.wf.hi,p.wf.up,p.wf.inj,by simp [x],p.sat.bd,Nm_undef,(fun id b he=>by rw [show x.eff id=false from skip_eff id] at he;cases he),rfl,(fun q hq=>by cases hq),fun q hq=>by cases hq⟩
 refine hk (xs++[x]) a0 h0 (a.put o.dst undef) ⟨chain_snoc p.chain rfl rfl,?_,?_,?_,?_,p.wf,p.sat,put_bnd p.bnd _ (by simp),p.agr.put hd _,p.oks⟩
 ·rw [List.map_append,List.append_assoc];exact p.os
 ·intro y hy
  rcases List.mem_append.1 hy with h2|h2
  ·exact p.ok y h2
  ·simp only [List.mem_singleton] at h2
   subst h2
   exact ⟨.inl ⟨wantB_ok p.agr hw,rfl,rfl⟩,Nat.le_refl _,fun _ _ hn=>hn,fun _ _=>rfl,fun id he=>by rw [show x.eff id=false from skip_eff id] at he;cases he⟩
 ·simp [p.len]
 ·exact fun hdr=>told_snoc p.len (p.told hdr) rfl rfl hrec p.wf.bn
theorem RS.weak [Pend] {draw:Bool} {rs:List Rk} {l:List Oper} {f f':Fr} {h:SH} {K:Fr→SH→Prop} (hn:f'.nt=f.nt) (hw:∀ t v,f'.get t=some v→f.get t=some v) (hk:RS P ops draw rs l f' h K):RS P ops draw rs l f h K :=
 fun xs a0 h0 a p=>hk xs a0 h0 a ⟨p.chain,p.os,p.ok,p.len,p.told,p.wf,p.sat,p.bnd,p.agr.weak hn hw,p.oks⟩
theorem re_get {f:Fr} {t:Nat} {v:Value} (h:findV f.l t=some v):∀ s u,({ f with l:=(t,v)::f.l }:Fr).get s=some u→f.get s=some u:=by
 intro s u hu
 simp only [Fr.get,find_cons] at hu ⊢
 by_cases e:t=s
 ·rw [if_pos e] at hu;subst e;rw [h];exact hu
 ·rw [if_neg e] at hu;exact hu
theorem RS.split [Pend] {draw:Bool} {rs:List Rk} {l:List Oper} {f:Fr} {h:SH} {K:Fr→SH→Prop} (t:Nat) {b:Bool} (hg:findV f.l t=some (.bool b))
 (h1:b=true→RS P ops draw rs l { f with l:=(t,.bool true)::f.l } h K) (h2:b=false→RS P ops draw rs l { f with l:=(t,.bool false)::f.l } h K):RS P ops draw rs l f h K:=by
 cases b with
 | true=>exact RS.weak (f':={ f with l:=(t,.bool true)::f.l }) rfl (re_get hg) (h1 rfl)
 | false=>exact RS.weak (f':={ f with l:=(t,.bool false)::f.l }) rfl (re_get hg) (h2 rfl)
end Go.AH
namespace Go.AH
variable {P:Program}
def W [Pend] (P:Program) (c:Code) (f:Fr) (h:SH) (K:Exit→Fr→SH→Prop):Prop :=
 ∀ a,h.WF→Sat P h.den→bndA h.den.n a→Agr f a→∃ e f' h' a',K e f' h'∧h'.WF∧Sat P h'.den∧bndA h'.den.n a'∧Agr f' a'∧TC P c a h.den e a' h'.den
def thenK [Pend] (P:Program) (y:Code) (K:Exit→Fr→SH→Prop):Exit→Fr→SH→Prop
 | .normal,f,h=>W P y f h K
 | e,f,h=>K e f h
section
variable {f:Fr} {h:SH} {K:Exit→Fr→SH→Prop}
theorem W.skip [Pend] (hk:K .normal f h):W P .skip f h K:=fun a w s b g=>⟨.normal,f,h,a,hk,w,s,b,g,TC.skip _ _⟩
theorem W.exit [Pend] {id:Nat} (hk:K (.exit id) f h):W P (.exit id) f h K:=fun a w s b g=>⟨.exit id,f,h,a,hk,w,s,b,g,TC.exit _ _ _⟩
theorem W.ret [Pend] (hk:K .ret f h):W P .ret f h K:=fun a w s b g=>⟨.ret,f,h,a,hk,w,s,b,g,TC.ret _ _⟩
theorem W.seq [Pend] {x y:Code} (hx:W P x f h (thenK P y K)):W P (.seq x y) f h K:=by
 intro a w s b g
 obtain ⟨e,f1,h1,a1,hk,w1,s1,b1,g1,t1⟩:=hx a w s b g
 cases e with
 | normal =>
  obtain ⟨e2,f2,h2,a2,hk2,w2,s2,b2,g2,t2⟩:=hk a1 w1 s1 b1 g1
  exact ⟨e2,f2,h2,a2,hk2,w2,s2,b2,g2,TC.seq t1 t2⟩
 | exit id=>exact ⟨_,f1,h1,a1,hk,w1,s1,b1,g1,TC.seq_out t1 (by simp)⟩
 | ret=>exact ⟨_,f1,h1,a1,hk,w1,s1,b1,g1,TC.seq_out t1 (by simp)⟩
 | _=>exact ⟨_,f1,h1,a1,hk,w1,s1,b1,g1,TC.seq_out t1 (by simp)⟩
theorem W.region [Pend] {id:Nat} {ops:Array Oper} {draw:Bool} (hk:okOpsB P.globals.size ops=true) (hr:RS P ops draw [] ops.toList f h (K .normal)):W P (.region id ops draw) f h K:=by
 intro a w s b g
 obtain ⟨f',h',a',k1,w1,s1,b1,g1,t1⟩:=hr [] a h.den a ⟨⟨rfl,rfl⟩,rfl,(fun x hx=>by cases hx),rfl,(fun _ i r x hr=>by simp at hr),w,s,b,g,hk⟩
 exact ⟨.normal,f',h',a',k1,w1,s1,b1,g1,t1 id⟩
theorem W.condT [Pend] {c:Operand} {x y:Code} (hk:okOpB P.globals.size c=true) (hc:f.ev c=some (.bool true)) (hx:W P x f h K):W P (.cond c x y) f h K:=by
 intro a w s b g
 obtain ⟨e,f1,h1,a1,k1,w1,s1,b1,g1,t1⟩:=hx a w s b g
 exact ⟨e,f1,h1,a1,k1,w1,s1,b1,g1,TC.cond (t:=true) (okOpB_ok hk) (g.ev hc) t1⟩
theorem W.condF [Pend] {c:Operand} {x y:Code} (hk:okOpB P.globals.size c=true) (hc:f.ev c=some (.bool false)) (hx:W P y f h K):W P (.cond c x y) f h K:=by
 intro a w s b g
 obtain ⟨e,f1,h1,a1,k1,w1,s1,b1,g1,t1⟩:=hx a w s b g
 exact ⟨e,f1,h1,a1,k1,w1,s1,b1,g1,TC.cond (t:=false) (okOpB_ok hk) (g.ev hc) t1⟩
theorem W.cond [Pend] {t:Tmp} {b:Bool} {x y:Code} (hc:findV f.l t=some (.bool b)) (hx:b=true→W P x { f with l:=(t,.bool true)::f.l } h K) (hy:b=false→W P y { f with l:=(t,.bool false)::f.l } h K):W P (.cond (.tmp t) x y) f h K:=by
 intro a w s bb g
 cases b with
 | true =>
  obtain ⟨e,f1,h1,a1,k1,w1,s1,b1,g1,t1⟩:=hx rfl a w s bb (g.weak rfl (re_get hc))
  exact ⟨e,f1,h1,a1,k1,w1,s1,b1,g1,TC.cond (t:=true) trivial (g.ev (x:=.tmp t) hc) t1⟩
 | false =>
  obtain ⟨e,f1,h1,a1,k1,w1,s1,b1,g1,t1⟩:=hy rfl a w s bb (g.weak rfl (re_get hc))
  exact ⟨e,f1,h1,a1,k1,w1,s1,b1,g1,TC.cond (t:=false) trivial (g.ev (x:=.tmp t) hc) t1⟩
def blockK (id:Nat) (K:Exit→Fr→SH→Prop):Exit→Fr→SH→Prop
 | .exit i,f,h=>bif Nat.beq i id then K .normal f h else K (.exit i) f h
 | e,f,h=>K e f h
theorem W.block [Pend] {id:Nat} {c:Code} (hc:W P c f h (blockK id K)):W P (.block id c) f h K:=by
 intro a w s b g
 obtain ⟨e,f1,h1,a1,k1,w1,s1,b1,g1,t1⟩:=hc a w s b g
 refine ⟨unblock id e,f1,h1,a1,?_,w1,s1,b1,g1,TC.block t1⟩
 cases e with
 | exit i =>
  simp only [unblock]
  have k1:(bif Nat.beq i id then K .normal f1 h1 else K (.exit i) f1 h1):=k1
  by_cases e:i=id
  ·subst e;simpa using k1
  ·have hb:Nat.beq i id=false:=by
    cases hb:Nat.beq i id with
    | false=>rfl
    | true=>exact absurd (Nat.eq_of_beq_eq_true hb) e
   rw [hb] at k1
   rw [if_neg e];exact k1
 | _=>exact k1
theorem W.weak [Pend] {c:Code} {f':Fr} (hn:f'.nt=f.nt) (hw:∀ t v,f'.get t=some v→f.get t=some v) (hk:W P c f' h K):W P c f h K:=fun a w s b g=>hk a w s b (g.weak hn hw)
theorem W.mono [Pend] {c:Code} {K':Exit→Fr→SH→Prop} (hw:W P c f h K) (hk:∀ e f h,K e f h→K' e f h):W P c f h K':=by
 intro a w s b g
 obtain ⟨e,f1,h1,a1,k1,r⟩:=hw a w s b g
 exact ⟨e,f1,h1,a1,hk _ _ _ k1,r⟩
end
def nthL:List Nat→Nat→Option Nat
 | [],_=>none
 | a::_,0=>some a
 | _::l,i+1=>nthL l i
def rePi (π:Nat→Nat) (k:Nat) (m:List Nat) (i:Nat):Nat:=match nthL m i with
 | some j=>π j
 | none=>π k+(i - m.length)
def AllV (fl:List (Nat × Value)):List (Nat × Value)→Prop
 | []=>True
 | (t,v)::l=>findV fl t=some v∧AllV fl l
def AllB (hl:List (Nat × Option Blk)) (m:List Nat):List (Nat × Option Blk)→Prop
 | []=>True
 | (_,none)::l=>AllB hl m l
 | (i,some b)::l=>(match nthL m i with|some j=>lookB hl j=some b|none=>False)∧AllB hl m l
def distinctB:List Nat→Bool
 | []=>true
 | a::l=>!(memL a l) && distinctB l
structure FitL (f:Fr) (h:SH) (m:List Nat) (F:(Nat→Nat)→List (Nat × Value)) (B:Hp) (L:(Nat→Nat)→List (Nat × Option Blk)):Prop where
 mk ::
 fr:AllV f.l (F (rePi h.π h.k m))
 ba:B=h.base
 bl:AllB h.l m (L (rePi h.π h.k m))
 ms:(distinctB m && m.all fun j=>Nat.blt j h.k)=true
theorem AllV.get {fl:List (Nat × Value)}:∀ {l:List (Nat × Value)},AllV fl l→∀ t v,findV l t=some v→findV fl t=some v:=by
 intro l
 induction l with
 | nil=>intro _ t v h;cases h
 | cons p l ih =>
  intro ha t v h
  obtain ⟨p1,p2⟩:=p
  rw [find_cons] at h
  by_cases e:p1=t
  ·rw [if_pos e] at h;rw [← h,← e];exact ha.1
  ·rw [if_neg e] at h;exact ih ha.2 t v h
theorem AllB.get {hl:List (Nat × Option Blk)} {m:List Nat}:∀ {l:List (Nat × Option Blk)},AllB hl m l→∀ i b,lookB l i=some b→∃ j,nthL m i=some j∧lookB hl j=some b:=by
 intro l
 induction l with
 | nil=>intro _ t v h;cases h
 | cons p l ih =>
  intro ha i b h
  obtain ⟨p1,p2⟩:=p
  rw [look_cons] at h
  cases p2 with
  | none =>
   by_cases e:p1=i
   ·rw [if_pos e] at h;cases h
   ·rw [if_neg e] at h;exact ih ha i b h
  | some b0 =>
   by_cases e:p1=i
   ·rw [if_pos e] at h
    have h1:=ha.1
    rw [e] at h1
    simp only [Option.some.injEq] at h
    subst h
    split at h1
    ·rename_i j hj;exact ⟨j,hj,h1⟩
    ·exact h1.elim
   ·rw [if_neg e] at h;exact ih ha.2 i b h
theorem nthL_mem:∀ {l:List Nat} {i j:Nat},nthL l i=some j→j∈l∧i < l.length:=by
 intro l
 induction l with
 | nil=>intro i j h;cases h
 | cons a l ih =>
  intro i j h
  cases i with
  | zero=>simp only [nthL,Option.some.injEq] at h;subst h;simp
  | succ i=>have:=ih (show nthL l i=some j from h);simp [this.1];exact this.2
theorem nthL_some:∀ {l:List Nat} {i:Nat},i < l.length→∃ j,nthL l i=some j:=by
 intro l
 induction l with
 | nil=>intro i h;simp at h
 | cons a l ih =>
  intro i h
  cases i with
  | zero=>exact ⟨a,rfl⟩
  | succ i=>exact ih (by simpa using h)
theorem nthL_none:∀ {l:List Nat} {i:Nat},l.length≤i→nthL l i=none:=by
 intro l
 induction l with
 | nil=>intro i _;rfl
 | cons a l ih =>
  intro i h
  cases i with
  | zero=>simp at h
  | succ i=>exact ih (by simpa using h)
theorem nthL_inj:∀ {l:List Nat},distinctB l=true→∀ {i j a:Nat},nthL l i=some a→nthL l j=some a→i=j:=by
 intro l
 induction l with
 | nil=>intro _ i j a h;cases h
 | cons b l ih =>
  intro hd i j a hi hj
  simp only [distinctB,Bool.and_eq_true,Bool.not_eq_true'] at hd
  have hnb:∀ n,nthL l n≠some b:=by
   intro n hn
   have:=memL_iff.2 (nthL_mem hn).1
   rw [this] at hd;exact absurd hd.1 (by simp)
  cases i<;>cases j
  ·rfl
  ·simp only [nthL,Option.some.injEq] at hi hj;subst hi;exact absurd hj (hnb _)
  ·simp only [nthL,Option.some.injEq] at hi hj;subst hj;exact absurd hi (hnb _)
  ·rw [ih hd.2 (show nthL l _=some a from hi) (show nthL l _=some a from hj)]
theorem FitL.ok {f:Fr} {h:SH} (w:h.WF) {m:List Nat} {F:(Nat→Nat)→List (Nat × Value)} {B:Hp} {L:(Nat→Nat)→List (Nat × Option Blk)} (ft:FitL f h m F B L) :
 ({ base:=B,π:=rePi h.π h.k m,k:=m.length,l:=L (rePi h.π h.k m) }:SH).WF∧(∀ id b,({ base:=B,π:=rePi h.π h.k m,k:=m.length,l:=L (rePi h.π h.k m) }:SH).den.m id=some b→h.den.m id=some b)∧rePi h.π h.k m m.length=h.π h.k:=by
 have hms:=ft.ms
 simp only [Bool.and_eq_true] at hms
 obtain ⟨d1,d2⟩:=hms
 have hlt:∀ {i j:Nat},nthL m i=some j→j < h.k:=fun hj=>blt_iff.1 (List.all_eq_true.1 d2 _ (nthL_mem hj).1)
 have hge:∀ i,m.length≤i→rePi h.π h.k m i=h.π h.k+(i - m.length):=fun i hi=>by simp only [rePi,nthL_none hi]
 have hat:∀ {i j:Nat},nthL m i=some j→rePi h.π h.k m i=h.π j:=fun hj=>by simp only [rePi,hj]
 have hend:rePi h.π h.k m m.length=h.π h.k:=by rw [hge _ (Nat.le_refl _)];omega
 have hb:=ft.ba
 refine ⟨⟨fun i hi=>?_,fun i hi=>?_,fun i hi=>?_,fun i j hi hj e=>?_,?_,?_,by simp only [hb];exact w.bo⟩,fun id b hbk=>?_,hend⟩
 ·simp only at hi ⊢;rw [hge _ (by omega),hge _ hi];omega
 ·obtain ⟨j,hj⟩:=nthL_some hi
  simp only [hat hj,hb];exact w.lo j (hlt hj)
 ·obtain ⟨j,hj⟩:=nthL_some hi
  simp only [hat hj,hend];exact w.hi j (hlt hj)
 ·obtain ⟨a,ha⟩:=nthL_some hi
  obtain ⟨c,hc⟩:=nthL_some hj
  simp only [hat ha,hat hc] at e
  have:=w.inj a c (hlt ha) (hlt hc) e
  subst this
  exact nthL_inj d1 ha hc
 ·simp only [hend,hb];exact w.bn
 ·simp only [hb];exact w.bd
 ·simp only [SH.den,hb] at hbk ⊢
  by_cases hl:id < h.base.n
  ·rw [if_pos hl] at hbk ⊢;exact hbk
  ·rw [if_neg hl] at hbk ⊢
   cases hx:idx (rePi h.π h.k m) m.length id with
   | none=>rw [hx] at hbk;cases hbk
   | some i =>
    rw [hx] at hbk
    simp only [Option.bind_some] at hbk
    obtain ⟨j,g1,g2⟩:=ft.bl.get i b hbk
    obtain ⟨_,q2⟩:=idx_some hx
    rw [hat g1] at q2
    subst q2
    rw [idx_at w.inj (hlt g1)]
    exact g2
theorem HOK.sub {G:Nat} {h h':Hp} {ρ:Env} {W:World} (ho:HOK G h ρ W) (hn:h'.n=h.n) (hs:∀ id b,h'.m id=some b→h.m id=some b):HOK G h' ρ W :=
 ⟨fun i b hb=>ho.fits i b (hs i b hb),fun i b hb=>by rw [hn];exact ho.lt i b (hs i b hb),fun i j b c hi0 hb hc=>ho.inj i j b c hi0 (hs i b hb) (hs j c hc),fun i b hb=>by rw [hn];exact ho.bd i b (hs i b hb),ho.glob,by rw [hn];exact ho.gle,ho.gow⟩
theorem Ext.sub [Pend] {h h1 h2:Hp} {ρ ρ':Env} {W W':World} (e:Ext h1 h2 ρ ρ' W W') (hn:h1.n=h.n) (hs:∀ id b,h1.m id=some b→h.m id=some b):Ext h h2 ρ ρ' W W' :=
 ⟨by rw [← hn];exact e.agree,by rw [← hn];exact e.mono,fun c hc hk=>e.kept c hc fun i b hi0 hb=>hk i b hi0 (hs i b hb),e.size,fun i b hi0 hb hl=>by
  obtain ⟨k,c,hk0,hk,hl'⟩:=e.own i b hi0 hb hl
  exact ⟨k,c,hk0,hs k c hk,hl'⟩,e.tape,e.os,e.output,fun i b hin hb=>by
  obtain ⟨c,hc,h1,h2⟩:=e.surv i b (by rw [hn];exact hin) hb
  exact ⟨c,hs i c hc,h1,h2⟩⟩
theorem TC.sub {c:Code} {a a':Act} {h h1 h':Hp} {e:Exit} (ht:TC P c a h1 e a' h') (hn:h1.n=h.n) (hs:∀ id b,h1.m id=some b→h.m id=some b):TC P c a h e a' h':=by
 intro hb ρ W ho
 refine wp_mono (ht (by rw [hn];exact hb) ρ W (ho.sub hn hs)) ?_
 rintro e' A W' ⟨rfl,ρ',rfl,hb',ho',hE⟩
 exact ⟨rfl,ρ',rfl,hb',ho',hE.sub hn hs⟩
def roundK {X:Type} (F:(Nat→Nat)→X→List (Nat × Value)) (B:X→Hp) (L:(Nat→Nat)→X→List (Nat × Option Blk)) (I:X→Prop) (μ:X→Nat) (k0 nt:Nat) (x:X) (K:Exit→Fr→SH→Prop):Exit→Fr→SH→Prop
 | .normal,f,h=>∃ (x':X) (m:List Nat),m.length=k0∧f.nt=nt∧FitL f h m (F · x') (B x') (L · x')∧I x'∧μ x' < μ x
 | e,f,h=>K e f h
theorem W.loop [Pend] {X:Type} {body:Code} {f:Fr} {h:SH} {K:Exit→Fr→SH→Prop} (F:(Nat→Nat)→X→List (Nat × Value)) (B:X→Hp) (L:(Nat→Nat)→X→List (Nat × Option Blk)) (I:X→Prop) (μ:X→Nat) (m:List Nat) (x0:X)
 (hI:I x0) (hf:FitL f h m (F · x0) (B x0) (L · x0)) (hr:∀ π x,I x→W P body ⟨F π x,f.nt⟩ ⟨B x,π,m.length,L π x⟩ (roundK F B L I μ m.length f.nt x K)):W P (.loop body) f h K:=by
 intro a w s b g
 have key:∀ n (x:X) (m1:List Nat) (f1:Fr) (h1:SH) (a1:Act),m1.length=m.length→f1.nt=f.nt→μ x < n→I x→h1.WF→Sat P h1.den→bndA h1.den.n a1→Agr f1 a1→FitL f1 h1 m1 (F · x) (B x) (L · x) →
  ∃ e f' h' a',K e f' h'∧h'.WF∧Sat P h'.den∧bndA h'.den.n a'∧Agr f' a'∧TR P n body a1 h1.den e a' h'.den:=by
  intro n
  induction n with
  | zero=>intro x m1 f1 h1 a1 _ _ hm;omega
  | succ n ih =>
   intro x m1 f1 h1 a1 hlen hnt hm hI w1 s1 b1 g1 ft
   obtain ⟨w2,hsub,hend⟩:=ft.ok w1
   have hn2:({ base:=B x,π:=rePi h1.π h1.k m1,k:=m1.length,l:=L (rePi h1.π h1.k m1) x }:SH).den.n=h1.den.n:=hend
   have s2:Sat P ({ base:=B x,π:=rePi h1.π h1.k m1,k:=m1.length,l:=L (rePi h1.π h1.k m1) x }:SH).den:=by
    obtain ⟨ρ,W,ho⟩:=s1
    exact ⟨ρ,W,ho.sub hn2 hsub⟩
   have hw:=hr (rePi h1.π h1.k m1) x hI
   rw [← hlen] at hw
   obtain ⟨e,f3,h3,a3,k3,w3,s3,b3,g3,t3⟩:=hw a1 w2 s2 (by rw [hn2];exact b1) (g1.weak (by simp [hnt]) fun t v hv=>ft.fr.get t v hv)
   have t3:=t3.sub hn2 hsub
   have outE:e≠.normal→K e f3 h3→∃ e f' h' a',K e f' h'∧h'.WF∧Sat P h'.den∧bndA h'.den.n a'∧Agr f' a'∧TR P (n+1) body a1 h1.den e a' h'.den :=
    fun hne hk=>⟨e,f3,h3,a3,hk,w3,s3,b3,g3,TR.out t3 hne⟩
   cases e with
   | normal =>
    obtain ⟨x',m',hl',hnt3,ft',hI',hμ⟩:=k3
    obtain ⟨e,f4,h4,a4,k4,w4,s4,b4,g4,t4⟩:=ih x' m' f3 h3 a3 (by rw [hl',hlen]) hnt3 (by omega) hI' w3 s3 b3 g3 ft'
    exact ⟨e,f4,h4,a4,k4,w4,s4,b4,g4,TR.next t3 t4⟩
   | _=>exact outE (by simp) k3
 obtain ⟨e,f',h',a',k1,w1,s1,b1,g1,t1⟩:=key (μ x0+1) x0 m f h a rfl rfl (by omega) hI w s b g hf
 exact ⟨e,f',h',a',k1,w1,s1,b1,g1,TR.loop t1⟩
end Go.AH
namespace Go.AH
variable {P:Program} {o:Oper} {f:Fr} {h:SH} {v:Value}
structure Sees (h:SH) (vb:Bool) (vl:List Nat) (H:Hp):Prop where
 b:vb=true→∀ id,id < h.base.n→H.m id=h.base.m id
 l:∀ i,memL i vl=true→i < h.k→H.m (h.π i)=lookB h.l i
 n:H.n=h.π h.k
 own:∀ i,i < h.k→rwM≤h.π i
def recP (k:Nat) (vb:Bool) (vl:List Nat) (nv:Option (List Nat)):Rk:={ vb:=vb,vl:=vl,k:=k,k':=k,w:=[],wb:=false,nv:=nv,cn:=some [] }
theorem recP_eff {n0:Nat} {π:Nat→Nat} {k:Nat} {vb:Bool} {vl:List Nat} {nv:Option (List Nat)} (id:Nat):effR n0 π (recP k vb vl nv) id=false:=by
 unfold effR recP
 by_cases h:id < n0
 ·simp [h]
 ·simp only [h,if_false]
  cases hi:idx π k id with
  | none=>rfl
  | some i=>have:=(idx_some hi).1;simp [memL,this]
theorem memL_self (i:Nat) (l:List Nat):memL i (i::l)=true:=memL_iff.2 (by simp)
theorem sees_hide (w:h.WF) {r:Rk} (hk:h.k≤r.k') (hj:∀ i j,i < r.k'→j < r.k'→h.π i=h.π j→i=j):Sees h r.vb r.vl (h.den.hide (hidR h.base.n h.π r)):=by
 refine ⟨fun hvb id hid=>?_,fun i hi hik=>?_,rfl,fun i hi=>Nat.le_trans w.bo (w.lo i hi)⟩
 ·simp only [Hp.hide,hidR,if_pos hid,hvb]
  simp [SH.den,hid]
 ·have hlo:=w.lo i hik
  have:hidR h.base.n h.π r (h.π i)=false:=by
   simp only [hidR,if_neg (Nat.not_lt.2 hlo),idx_at hj (Nat.lt_of_lt_of_le hik hk),hi]
   simp
  simp only [Hp.hide,this]
  exact SH.m_loc w hik
theorem One.reads [Pend] {vb:Bool} {vl:List Nat} {nv:Option (List Nat)} (htx:∀ a,Agr f a→∀ H,Sees h vb vl H→TX P o a.eval H v H) (hnv:NmO h.base.n h.π nv v):One P o f h v h (recP h.k vb vl nv) where
 tx w a g:=htx a g _ (sees_hide (r:=recP h.k vb vl nv) w (Nat.le_refl _) w.inj)
 wf w:=w
 bn:=rfl
 pi:=rfl
 k:=rfl
 k':=rfl
 kk:=Nat.le_refl _
 effs _ _ _:=rfl
 ehid _ id he:=by rw [recP_eff] at he;cases he
 fresh _ _ _ hn:=hn
 nv:=hnv
 cn _ id b he:=by rw [recP_eff] at he;cases he
def recW (k:Nat) (vb:Bool) (vl:List Nat) (i:Nat) (nv cn:Option (List Nat)):Rk:={ vb:=vb,vl:=i::vl,k:=k,k':=k,w:=[i],wb:=false,nv:=nv,cn:=cn }
theorem recW_eff {n0:Nat} {π:Nat→Nat} {k i:Nat} {vb:Bool} {vl:List Nat} {nv cn:Option (List Nat)} {id:Nat} (h:effR n0 π (recW k vb vl i nv cn) id=true):¬ id < n0∧i < k∧id=π i:=by
 unfold effR recW at h
 by_cases h0:id < n0
 ·simp [h0] at h
 ·simp only [h0,if_false] at h
  cases hi:idx π k id with
  | none=>rw [hi] at h;cases h
  | some j =>
   rw [hi] at h
   obtain ⟨g1,g2⟩:=idx_some hi
   simp only [Bool.or_eq_true,memL_iff,List.mem_singleton,decide_eq_true_eq] at h
   rcases h with h|h
   ·subst h;exact ⟨h0,g1,g2.symm⟩
   ·omega
theorem One.write [Pend] {vb:Bool} {vl:List Nat} {nv cn:Option (List Nat)} {i:Nat} {b':Blk} {b:Blk} (hi:Nat.blt i h.k=true) (hb:lookB h.l i=some b) (htx:∀ a,Agr f a→∀ H,Sees h vb (i::vl) H→TX P o a.eval H v (H.set (h.π i) b'))
 (hnv:NmO h.base.n h.π nv v) (hcn:∀ u∈b'.cells,NmO h.base.n h.π cn u):One P o f h v { h with l:=(i,some b')::h.l } (recW h.k vb vl i nv cn):=by
 have hi':=blt_iff.1 hi
 have hvis:h.WF→hidR h.base.n h.π (recW h.k vb vl i nv cn) (h.π i)=false:=by
  intro w
  have hlo:=w.lo i hi'
  simp only [hidR,recW,if_neg (Nat.not_lt.2 hlo),idx_at w.inj hi',memL_self]
  simp
 refine ⟨fun w a g=>?_,fun w=>w.setL _,rfl,rfl,rfl,rfl,Nat.le_refl _,fun w id he=>?_,fun w id he=>?_,fun w id hid hn=>?_,hnv,fun w id c he hc u hu=>?_⟩
 ·have:=htx a g _ (sees_hide (r:=recW h.k vb vl i nv cn) w (Nat.le_refl _) w.inj)
  rw [← SH.set_loc w hi']
  have e:(h.den.set (h.π i) b').hide (hidR h.base.n h.π (recW h.k vb vl i nv cn))=(h.den.hide (hidR h.base.n h.π (recW h.k vb vl i nv cn))).set (h.π i) b':=by
   refine Hp.eq (fun id=>?_) rfl
   simp only [Hp.hide,Hp.set]
   by_cases e:id=h.π i
   ·rw [if_pos e,if_pos e,e,hvis w];rfl
   ·rw [if_neg e,if_neg e]
  rw [e];exact this
 ·rw [← SH.set_loc w hi']
  simp only [Hp.set]
  by_cases e:id=h.π i
  ·exfalso
   have:effR h.base.n h.π (recW h.k vb vl i nv cn) id=true:=by
    subst e
    have hlo:=w.lo i hi'
    simp only [effR,recW,if_neg (Nat.not_lt.2 hlo),idx_at w.inj hi']
    simp [memL_iff]
   rw [this] at he;cases he
  ·rw [if_neg e]
 ·obtain ⟨_,_,e⟩:=recW_eff he
  subst e;exact hvis w
 ·rw [← SH.set_loc w hi']
  simp only [Hp.set]
  by_cases e:id=h.π i
  ·exfalso;rw [e,SH.m_loc w hi',hb] at hn;cases hn
  ·rw [if_neg e];exact hn
 ·obtain ⟨_,_,e⟩:=recW_eff he
  rw [← SH.set_loc w hi',e] at hc
  simp only [Hp.set,if_true,Option.some.injEq] at hc
  subst hc
  exact hcn u hu
def recWB (k:Nat) (vl:List Nat) (nv:Option (List Nat)):Rk:={ vb:=true,vl:=vl,k:=k,k':=k,w:=[],wb:=true,nv:=nv,cn:=none }
theorem recWB_eff {n0:Nat} {π:Nat→Nat} {k:Nat} {vl:List Nat} {nv:Option (List Nat)} {id:Nat}:effR n0 π (recWB k vl nv) id=decide (id < n0):=by
 unfold effR recWB
 by_cases h0:id < n0
 ·simp [h0]
 ·simp only [h0,if_false]
  cases hi:idx π k id with
  | none=>simp
  | some j=>have:=(idx_some hi).1;simp [memL];omega
theorem One.writeB [Pend] {vl:List Nat} {nv:Option (List Nat)} {i:Nat} {b b':Blk} (hb:h.base.m i=some b) (htx:∀ a,Agr f a→∀ H,Sees h true vl H→TX P o a.eval H v (H.set i b'))
 (hnv:NmO h.base.n h.π nv v) (hi:i < h.base.n):One P o f h v { h with base:=h.base.set i b' } (recWB h.k vl nv):=by
 refine ⟨fun w a g=>?_,fun w=>w.setB hi _,rfl,rfl,rfl,rfl,Nat.le_refl _,fun w id he=>?_,fun w id he=>?_,fun w id hid hn=>?_,hnv,fun w id c he hc u hu=>trivial⟩
 ·have:=htx a g _ (sees_hide (r:=recWB h.k vl nv) w (Nat.le_refl _) w.inj)
  rw [← SH.set_base w hi]
  have e:(h.den.set i b').hide (hidR h.base.n h.π (recWB h.k vl nv))=(h.den.hide (hidR h.base.n h.π (recWB h.k vl nv))).set i b':=by
   refine Hp.eq (fun id=>?_) rfl
   simp only [Hp.hide,Hp.set]
   by_cases e:id=i
   ·subst e;simp [hidR,hi,recWB]
   ·rw [if_neg e,if_neg e]
  rw [e];exact this
 ·rw [recWB_eff] at he
  rw [← SH.set_base w hi]
  simp only [decide_eq_false_iff_not] at he
  simp only [Hp.set]
  rw [if_neg (by omega)]
 ·rw [recWB_eff] at he
  simp only [decide_eq_true_eq] at he
  simp [hidR,he,recWB]
 ·rw [← SH.set_base w hi]
  simp only [Hp.set]
  by_cases e:id=i
  ·exfalso;rw [e,SH.m_base w hb] at hn;cases hn
  ·rw [if_neg e];exact hn
def recN (k:Nat) (vb:Bool) (vl:List Nat) (nv cn:Option (List Nat)):Rk:={ vb:=vb,vl:=vl,k:=k,k':=k+1,w:=[],wb:=false,nv:=nv,cn:=cn }
theorem recN_eff {n0:Nat} {π:Nat→Nat} {k:Nat} {vb:Bool} {vl:List Nat} {nv cn:Option (List Nat)} {id:Nat} (h:effR n0 π (recN k vb vl nv cn) id=true):¬ id < n0∧id=π k:=by
 unfold effR recN at h
 by_cases h0:id < n0
 ·simp [h0] at h
 ·simp only [h0,if_false] at h
  cases hi:idx π (k+1) id with
  | none=>rw [hi] at h;cases h
  | some j =>
   rw [hi] at h
   obtain ⟨g1,g2⟩:=idx_some hi
   simp only [Bool.or_eq_true,memL,Bool.false_eq_true,false_or,decide_eq_true_eq] at h
   have:j=k:=by omega
   subst this;exact ⟨h0,g2.symm⟩
theorem One.new [Pend] {vb:Bool} {vl:List Nat} {nv cn:Option (List Nat)} {b:Blk} (htx:∀ a,Agr f a→∀ H,Sees h vb vl H→TX P o a.eval H v (H.push b))
 (hnv:NmO h.base.n h.π nv v) (hcn:∀ u∈b.cells,NmO h.base.n h.π cn u):One P o f h v { h with k:=h.k+1,l:=(h.k,some b)::h.l } (recN h.k vb vl nv cn):=by
 have hinj:h.WF→∀ i j,i < h.k+1→j < h.k+1→h.π i=h.π j→i=j:=fun w=>(w.push []).inj
 have hvis:h.WF→hidR h.base.n h.π (recN h.k vb vl nv cn) (h.π h.k)=false:=by
  intro w
  simp only [hidR,recN,if_neg (Nat.not_lt.2 w.bn),idx_at (hinj w) (Nat.lt_succ_self _)]
  simp
 refine ⟨fun w a g=>?_,fun w=>w.push _,rfl,rfl,rfl,rfl,Nat.le_succ _,fun w id he=>?_,fun w id he=>?_,fun w id hid hn=>?_,hnv,fun w id c he hc u hu=>?_⟩
 ·have:=htx a g _ (sees_hide (r:=recN h.k vb vl nv cn) w (Nat.le_succ _) (hinj w))
  rw [← SH.push_den w]
  have e:(h.den.push b).hide (hidR h.base.n h.π (recN h.k vb vl nv cn))=(h.den.hide (hidR h.base.n h.π (recN h.k vb vl nv cn))).push b:=by
   refine Hp.eq (fun id=>?_) rfl
   show (if hidR h.base.n h.π (recN h.k vb vl nv cn) id=true then none else if id=h.π h.k then some b else h.den.m id)=(if id=h.π h.k then some b else if hidR h.base.n h.π (recN h.k vb vl nv cn) id=true then none else h.den.m id)
   by_cases e:id=h.π h.k
   ·rw [if_pos e,if_pos e,e,hvis w];rfl
   ·rw [if_neg e,if_neg e]
  rw [e];exact this
 ·rw [← SH.push_den w]
  show (if id=h.π h.k then some b else h.den.m id)=_
  by_cases e:id=h.π h.k
  ·exfalso
   have:effR h.base.n h.π (recN h.k vb vl nv cn) id=true:=by
    subst e
    simp only [effR,recN,if_neg (Nat.not_lt.2 w.bn),idx_at (hinj w) (Nat.lt_succ_self _)]
    simp
   rw [this] at he;cases he
  ·rw [if_neg e]
 ·obtain ⟨_,e⟩:=recN_eff he
  subst e;exact hvis w
 ·rw [← SH.push_den w]
  show (if id=h.π h.k then some b else h.den.m id)=_
  have:id < h.π h.k:=hid
  rw [if_neg (by omega)];exact hn
 ·obtain ⟨_,e⟩:=recN_eff he
  rw [← SH.push_den w,e] at hc
  have hc:(if h.π h.k=h.π h.k then some b else h.den.m (h.π h.k))=some c:=hc
  rw [if_pos rfl] at hc
  injection hc with hc
  subst hc
  exact hcn u hu
def recG (k:Nat) (vb:Bool) (vl:List Nat) (i:Nat) (nv cn:Option (List Nat)):Rk:={ vb:=vb,vl:=i::vl,k:=k,k':=k+1,w:=[i],wb:=false,nv:=nv,cn:=cn }
theorem recG_eff {n0:Nat} {π:Nat→Nat} {k i:Nat} {vb:Bool} {vl:List Nat} {nv cn:Option (List Nat)} {id:Nat} (h:effR n0 π (recG k vb vl i nv cn) id=true):¬ id < n0∧(id=π k∨(i < k+1∧id=π i)):=by
 unfold effR recG at h
 by_cases h0:id < n0
 ·simp [h0] at h
 ·simp only [h0,if_false] at h
  cases hi:idx π (k+1) id with
  | none=>rw [hi] at h;cases h
  | some j =>
   rw [hi] at h
   obtain ⟨g1,g2⟩:=idx_some hi
   simp only [Bool.or_eq_true,memL_iff,List.mem_singleton,decide_eq_true_eq] at h
   refine ⟨h0,?_⟩
   rcases h with h|h
   ·subst h;exact .inr ⟨g1,g2.symm⟩
   ·have:j=k:=by omega
    subst this;exact .inl g2.symm
theorem One.grow [Pend] {vb:Bool} {vl:List Nat} {nv cn:Option (List Nat)} {i:Nat} {b:Blk} (hi:Nat.blt i h.k=true) (htx:∀ a,Agr f a→∀ H,Sees h vb (i::vl) H→TX P o a.eval H v ((H.kill (h.π i)).push b))
 (hnv:NmO h.base.n h.π nv v) (hcn:∀ u∈b.cells,NmO h.base.n h.π cn u):One P o f h v { h with k:=h.k+1,l:=(h.k,some b)::(i,none)::h.l } (recG h.k vb vl i nv cn):=by
 have hi':=blt_iff.1 hi
 have hinj:h.WF→∀ i j,i < h.k+1→j < h.k+1→h.π i=h.π j→i=j:=fun w=>(w.push []).inj
 have hvis:h.WF→hidR h.base.n h.π (recG h.k vb vl i nv cn) (h.π h.k)=false:=by
  intro w
  simp only [hidR,recG,if_neg (Nat.not_lt.2 w.bn),idx_at (hinj w) (Nat.lt_succ_self _)]
  simp
 have hvi:h.WF→hidR h.base.n h.π (recG h.k vb vl i nv cn) (h.π i)=false:=by
  intro w
  simp only [hidR,recG,if_neg (Nat.not_lt.2 (w.lo i hi')),idx_at (hinj w) (Nat.lt_succ_of_lt hi'),memL_self]
  simp
 have hden:h.WF→({ h with k:=h.k+1,l:=(h.k,some b)::(i,none)::h.l }:SH).den=(h.den.kill (h.π i)).push b:=by
  intro w
  rw [SH.kill_loc w hi',SH.push_den (w.setL _)]
 have hm:∀ id,((h.den.kill (h.π i)).push b).m id=if id=h.π h.k then some b else if id=h.π i then none else h.den.m id:=fun id=>rfl
 refine ⟨fun w a g=>?_,fun w=>w.push _,rfl,rfl,rfl,rfl,Nat.le_succ _,fun w id he=>?_,fun w id he=>?_,fun w id hid hn=>?_,hnv,fun w id c he hc u hu=>?_⟩
 ·have:=htx a g _ (sees_hide (r:=recG h.k vb vl i nv cn) w (Nat.le_succ _) (hinj w))
  rw [hden w]
  have e:((h.den.kill (h.π i)).push b).hide (hidR h.base.n h.π (recG h.k vb vl i nv cn))=((h.den.hide (hidR h.base.n h.π (recG h.k vb vl i nv cn))).kill (h.π i)).push b:=by
   refine Hp.eq (fun id=>?_) rfl
   show (if hidR h.base.n h.π (recG h.k vb vl i nv cn) id=true then none else if id=h.π h.k then some b else if id=h.π i then none else h.den.m id)=(if id=h.π h.k then some b else if id=h.π i then none else if hidR h.base.n h.π (recG h.k vb vl i nv cn) id=true then none else h.den.m id)
   by_cases e:id=h.π h.k
   ·rw [if_pos e,if_pos e,e,hvis w];rfl
   ·rw [if_neg e,if_neg e]
    by_cases e2:id=h.π i
    ·rw [if_pos e2,if_pos e2];split<;>rfl
    ·rw [if_neg e2,if_neg e2]
  rw [e];exact this
 ·rw [hden w,hm]
  by_cases e:id=h.π h.k
  ·exfalso
   have:effR h.base.n h.π (recG h.k vb vl i nv cn) id=true:=by
    subst e
    simp only [effR,recG,if_neg (Nat.not_lt.2 w.bn),idx_at (hinj w) (Nat.lt_succ_self _)]
    simp
   rw [this] at he;cases he
  ·rw [if_neg e]
   by_cases e2:id=h.π i
   ·exfalso
    have:effR h.base.n h.π (recG h.k vb vl i nv cn) id=true:=by
     subst e2
     simp only [effR,recG,if_neg (Nat.not_lt.2 (w.lo i hi')),idx_at (hinj w) (Nat.lt_succ_of_lt hi')]
     simp [memL_iff]
    rw [this] at he;cases he
   ·rw [if_neg e2]
 ·obtain ⟨_,e|⟨_,e⟩⟩:=recG_eff he
  ·subst e;exact hvis w
  ·subst e;exact hvi w
 ·rw [hden w,hm]
  have:id < h.π h.k:=hid
  rw [if_neg (by omega)]
  split
  ·rfl
  ·exact hn
 ·rw [hden w,hm] at hc
  obtain ⟨_,e|⟨_,e⟩⟩:=recG_eff he
  ·rw [if_pos e] at hc
   injection hc with hc
   subst hc
   exact hcn u hu
  ·have hlt:=w.hi i hi'
   rw [if_neg (by omega),if_pos e] at hc;cases hc
end Go.AH
namespace Go.AH
variable {P:Program}
def elemB:TypeDesc→Bool
 | .slice e=>Nat.blt e 1000000
 | _=>true
class TyU (P:Program) (t:TypeId) (d:outParam TypeDesc):Prop where
 eq:P.underlying t=some d
 lt:elemB d=true
theorem TyU.ltE {t e:TypeId} (h:TyU P t (.slice e)):e < mapM:=blt_iff.1 (show Nat.blt e 1000000=true from h.lt)
class TyOne (P:Program) (t:TypeId):Prop where
 eq:(P.underlying t).map aggD=some false
class TyAgg (P:Program) (t:TypeId) (size:outParam Nat):Prop where
 eq:(P.underlying t).map aggD=some true∧(P.info? t).map (·.size)=some size
class TySz (P:Program) (t:TypeId) (size:outParam Nat):Prop where
 eq:(P.info? t).map (·.size)=some size
 lt:Nat.blt t 1000000=true
theorem TySz.ltT {t:TypeId} {n:Nat} (h:TySz P t n):t < mapM:=blt_iff.1 (show Nat.blt t 1000000=true from h.lt)
class TyBy (P:Program) (t:TypeId) (bytes:outParam Nat):Prop where
 eq:(P.info? t).map (·.bytes)=some bytes
def zeroB (P:Program) (t:TypeId) (z:Value):Bool:=match P.info? t with
 | some ti=>match ti.zero with
  | some u=>freeB u
  | none=>false
 | none=>false
class TyZ (P:Program) (t:TypeId) (z:outParam Value):Prop where
 eq:(P.info? t).bind (·.zero)=some z
 fr:freeB z=true
 lt:Nat.blt t 1000000=true
theorem TyZ.ltT {t:TypeId} {z:Value} (h:TyZ P t z):t < mapM:=blt_iff.1 (show Nat.blt t 1000000=true from h.lt)
def offOf (P:Program) (t:TypeId) (i:Nat):Option Nat:=match P.underlying t with
 | some (.struct fs)=>match fs[i]? with
  | some f=>match P.info? f.type with
   | some fi=>bif Nat.beq fi.size 0 then none else some f.offset
   | none=>none
  | none=>none
 | _=>none
class FOff (P:Program) (t:TypeId) (i:Nat) (off:outParam Nat):Prop where
 eq:offOf P t i=some off
class GF (P:Program) (g:FuncId):Prop where
 ok : (P.funcs[g]?).map (fun fn => !(fn.name == "runtime.NumGoroutine") && fn.body.isSome) = some true
section
variable {ops:Array Oper} {draw:Bool} {rs:List Rk} {l:List Oper} {fl:List (Nat × Value)} {nt:Nat} {h:SH} {K:Fr→SH→Prop} {d:Tmp} {ty:TypeId} {pos:String} {af:Array Edge} {gd:Option (Nat × Bool)}
theorem RS.still [Pend] {op:Op} {v:Value} {nv:Option (List Nat)} (hw:wantB ops ⟨some d,op,ty,pos,af,gd⟩ ⟨fl,nt⟩=some true) (hd:Nat.blt d nt=true)
 (htx:∀ a,Agr ⟨fl,nt⟩ a→∀ H,TX P ⟨some d,op,ty,pos,af,gd⟩ a.eval H v H) (hnv:NmO h.base.n h.π nv v)
 (hk:RS P ops draw (recP h.k false [] nv::rs) l ⟨(d,v)::fl,nt⟩ h K):RS P ops draw rs (⟨some d,op,ty,pos,af,gd⟩::l) ⟨fl,nt⟩ h K :=
 RS.step hw hd (One.reads (fun a g H _=>htx a g H) hnv) hk
theorem RS.move [Pend] {x:Operand} {v:Value} (hw:wantB ops ⟨some d,.move x,ty,pos,af,gd⟩ ⟨fl,nt⟩=some true) (hd:Nat.blt d nt=true) (hx:Fr.ev ⟨fl,nt⟩ x=some v)
 (hk:RS P ops draw (recP h.k false [] none::rs) l ⟨(d,v)::fl,nt⟩ h K):RS P ops draw rs (⟨some d,.move x,ty,pos,af,gd⟩::l) ⟨fl,nt⟩ h K :=
 RS.still (nv:=none) hw hd (fun a g H=>by rw [← g.ev hx];exact TX.move rfl) trivial hk
theorem RS.assign [Pend] {x:Operand} {v:Value} (hw:wantB ops ⟨some d,.assign x,ty,pos,af,gd⟩ ⟨fl,nt⟩=some true) (hd:Nat.blt d nt=true) (hx:Fr.ev ⟨fl,nt⟩ x=some v)
 (hk:RS P ops draw (recP h.k false [] none::rs) l ⟨(d,v)::fl,nt⟩ h K):RS P ops draw rs (⟨some d,.assign x,ty,pos,af,gd⟩::l) ⟨fl,nt⟩ h K :=
 RS.still (nv:=none) hw hd (fun a g H=>by rw [← g.ev hx];exact TX.assign rfl) trivial hk
theorem RS.pickT [Pend] {c x y:Operand} {v:Value} (hw:wantB ops ⟨some d,.pick c x y,ty,pos,af,gd⟩ ⟨fl,nt⟩=some true) (hd:Nat.blt d nt=true) (hc:Fr.ev ⟨fl,nt⟩ c=some (.bool true)) (hx:Fr.ev ⟨fl,nt⟩ x=some v)
 (hk:RS P ops draw (recP h.k false [] none::rs) l ⟨(d,v)::fl,nt⟩ h K):RS P ops draw rs (⟨some d,.pick c x y,ty,pos,af,gd⟩::l) ⟨fl,nt⟩ h K :=
 RS.still (nv:=none) hw hd (fun a g H=>by have:=TX.pick (P:=P) (o:=⟨some d,.pick c x y,ty,pos,af,gd⟩) (ev:=a.eval) (h:=H) rfl (g.ev hc);rw [← g.ev hx];exact this) trivial hk
theorem RS.pickF [Pend] {c x y:Operand} {v:Value} (hw:wantB ops ⟨some d,.pick c x y,ty,pos,af,gd⟩ ⟨fl,nt⟩=some true) (hd:Nat.blt d nt=true) (hc:Fr.ev ⟨fl,nt⟩ c=some (.bool false)) (hy:Fr.ev ⟨fl,nt⟩ y=some v)
 (hk:RS P ops draw (recP h.k false [] none::rs) l ⟨(d,v)::fl,nt⟩ h K):RS P ops draw rs (⟨some d,.pick c x y,ty,pos,af,gd⟩::l) ⟨fl,nt⟩ h K :=
 RS.still (nv:=none) hw hd (fun a g H=>by have:=TX.pick (P:=P) (o:=⟨some d,.pick c x y,ty,pos,af,gd⟩) (ev:=a.eval) (h:=H) rfl (g.ev hc);rw [← g.ev hy];exact this) trivial hk
theorem Nm_free {n0:Nat} {π:Nat→Nat} {v:Value} (hv:bnd 0 v):NmO n0 π (some []) v:=ment_of_bnd (n:=0) (fun i hi=>by omega) v hv
theorem RS.free [Pend] {op:Op} {v:Value} (hw:wantB ops ⟨some d,op,ty,pos,af,gd⟩ ⟨fl,nt⟩=some true) (hd:Nat.blt d nt=true)
 (htx:∀ a,Agr ⟨fl,nt⟩ a→∀ H,TX P ⟨some d,op,ty,pos,af,gd⟩ a.eval H v H) (hv:bnd 0 v)
 (hk:RS P ops draw (recP h.k false [] (some [])::rs) l ⟨(d,v)::fl,nt⟩ h K):RS P ops draw rs (⟨some d,op,ty,pos,af,gd⟩::l) ⟨fl,nt⟩ h K :=
 RS.still hw hd htx (Nm_free hv) hk
def binI (op:BinOp) (k:IntKind) (a b:Int):Option Value:=match op with
 | .add=>some (.int k (k.wrap (a+b)))
 | .sub=>some (.int k (k.wrap (a - b)))
 | .mul=>some (.int k (k.wrap (a * b)))
 | .and=>some (.int k (k.wrap (BitVec.ofInt k.bits a &&& BitVec.ofInt k.bits b).toNat))
 | .or=>some (.int k (k.wrap (BitVec.ofInt k.bits a ||| BitVec.ofInt k.bits b).toNat))
 | .xor=>some (.int k (k.wrap (BitVec.ofInt k.bits a ^^^ BitVec.ofInt k.bits b).toNat))
 | .andNot=>some (.int k (k.wrap (BitVec.ofInt k.bits a &&& ~~~(BitVec.ofInt k.bits b)).toNat))
 | .eql=>some (.bool (a == b))
 | .neq=>some (.bool (a != b))
 | .lss=>some (.bool (decide (a < b)))
 | .leq=>some (.bool (decide (a≤b)))
 | .gtr=>some (.bool (decide (a > b)))
 | .geq=>some (.bool (decide (a ≥ b)))
 | _=>none
theorem eqGuard_plain [Pend] {op:BinOp} {t:TypeId} {x y:Operand} {u v:Value} (hp:plain2 u v=true) (W:World):(eqGuard op t x y u v).run P W=.ok () W:=by
 refine eqGuard_run ?_ W
 unfold plain2 at hp
 split at hp<;>first|rfl|cases hp
theorem tx_bin [Pend] {op:BinOp} {t yt:TypeId} {x y:Operand} {u w v:Value} {a:Act} {H:Hp} (hp:plain2 u w=true) (hx:a.eval x=u) (hy:a.eval y=w) (hr:∀ W,(binOp op t u w).run P W=.ok v W) (hv:bnd 0 v) :
 TX P ⟨some d,.binOp op t x y yt,ty,pos,af,gd⟩ a.eval H v H:=by
 have h0:bnd 0 u∧bnd 0 w:=by
  unfold plain2 at hp
  split at hp<;>first|exact ⟨by simp,by simp⟩|cases hp
 refine TX.pure (fun _ _=>by simp) (fun z hz=>?_) (fun W=>?_) hv
 ·simp only [Op.operands,List.mem_toArray,List.mem_cons,List.not_mem_nil,or_false] at hz
  rcases hz with rfl|rfl
  ·rw [hx];exact h0.1
  ·rw [hy];exact h0.2
 ·simp only [execOp,hx,hy,Sem.run_bind,eqGuard_plain hp W,Result.andThen_ok,hr W,Sem.run_pure]
theorem binI_run [Pend] {op:BinOp} {t:TypeId} {k:IntKind} {a b:Int} {v:Value} (h:binI op k a b=some v) (W:World):(binOp op t (.int k a) (.int k b)).run P W=.ok v W:=by
 cases op<;>simp only [binI,Option.some.injEq,reduceCtorEq] at h<;>subst h<;>simp [binOp,Op.intArith,Op.intBits,Op.intCmp]
theorem binI_free {op:BinOp} {k:IntKind} {a b:Int} {v:Value} (h:binI op k a b=some v):bnd 0 v:=by
 cases op<;>simp only [binI,Option.some.injEq,reduceCtorEq] at h<;>subst h<;>simp
theorem RS.bin [Pend] {op:BinOp} {t yt:TypeId} {x y:Operand} {k:IntKind} {a b:Int} {v:Value} (hw:wantB ops ⟨some d,.binOp op t x y yt,ty,pos,af,gd⟩ ⟨fl,nt⟩=some true) (hd:Nat.blt d nt=true)
 (hx:Fr.ev ⟨fl,nt⟩ x=some (.int k a)) (hy:Fr.ev ⟨fl,nt⟩ y=some (.int k b)) (hv:binI op k a b=some v)
 (hk:RS P ops draw (recP h.k false [] (some [])::rs) l ⟨(d,v)::fl,nt⟩ h K):RS P ops draw rs (⟨some d,.binOp op t x y yt,ty,pos,af,gd⟩::l) ⟨fl,nt⟩ h K :=
 RS.free hw hd (fun c g H=>tx_bin (u:=.int k a) (w:=.int k b) rfl (g.ev hx) (g.ev hy) (binI_run hv) (binI_free hv)) (binI_free hv) hk
theorem wrap64_fit {n:Int} (h0:-9223372036854775808≤n) (h1:n≤9223372036854775807):IntKind.i64.wrap n=n:=by
 simp only [IntKind.wrap,IntKind.signed,IntKind.bits];simp;omega
def binF (op:BinOp) (a b:Int):Option Int:=match op with
 | .add=>some (a+b)
 | .sub=>some (a - b)
 | .mul=>some (a * b)
 | _=>none
theorem RS.binFit [Pend] {op:BinOp} {t yt:TypeId} {x y:Operand} {a b n:Int} (hw:wantB ops ⟨some d,.binOp op t x y yt,ty,pos,af,gd⟩ ⟨fl,nt⟩=some true) (hd:Nat.blt d nt=true)
 (hx:Fr.ev ⟨fl,nt⟩ x=some (.int .i64 a)) (hy:Fr.ev ⟨fl,nt⟩ y=some (.int .i64 b)) (hv:binF op a b=some n) (h0:-9223372036854775808≤n∧n≤9223372036854775807)
 (hk:RS P ops draw (recP h.k false [] (some [])::rs) l ⟨(d,.int .i64 n)::fl,nt⟩ h K):RS P ops draw rs (⟨some d,.binOp op t x y yt,ty,pos,af,gd⟩::l) ⟨fl,nt⟩ h K:=by
 refine RS.bin hw hd hx hy (v:=.int .i64 n) ?_ hk
 cases op<;>simp only [binF,Option.some.injEq,reduceCtorEq] at hv<;>subst hv<;>simp only [binI,wrap64_fit h0.1 h0.2]
theorem RS.quo [Pend] {t yt:TypeId} {x y:Operand} {k:IntKind} {a b:Int} (hw:wantB ops ⟨some d,.binOp .quo t x y yt,ty,pos,af,gd⟩ ⟨fl,nt⟩=some true) (hd:Nat.blt d nt=true)
 (hx:Fr.ev ⟨fl,nt⟩ x=some (.int k a)) (hy:Fr.ev ⟨fl,nt⟩ y=some (.int k b)) (hb:b≠0)
 (hk:RS P ops draw (recP h.k false [] (some [])::rs) l ⟨(d,.int k (k.wrap (a.tdiv b)))::fl,nt⟩ h K):RS P ops draw rs (⟨some d,.binOp .quo t x y yt,ty,pos,af,gd⟩::l) ⟨fl,nt⟩ h K :=
 RS.free hw hd (fun c g H=>tx_bin (u:=.int k a) (w:=.int k b) rfl (g.ev hx) (g.ev hy) (fun W=>by simp [binOp,Op.intDiv,hb]) (by simp)) (by simp) hk
theorem RS.rem [Pend] {t yt:TypeId} {x y:Operand} {k:IntKind} {a b:Int} (hw:wantB ops ⟨some d,.binOp .rem t x y yt,ty,pos,af,gd⟩ ⟨fl,nt⟩=some true) (hd:Nat.blt d nt=true)
 (hx:Fr.ev ⟨fl,nt⟩ x=some (.int k a)) (hy:Fr.ev ⟨fl,nt⟩ y=some (.int k b)) (hb:b≠0)
 (hk:RS P ops draw (recP h.k false [] (some [])::rs) l ⟨(d,.int k (a.tmod b))::fl,nt⟩ h K):RS P ops draw rs (⟨some d,.binOp .rem t x y yt,ty,pos,af,gd⟩::l) ⟨fl,nt⟩ h K :=
 RS.free hw hd (fun c g H=>tx_bin (u:=.int k a) (w:=.int k b) rfl (g.ev hx) (g.ev hy) (fun W=>by simp [binOp,Op.intDiv,hb]) (by simp)) (by simp) hk
def binS (op:BinOp) (a b:ByteArray):Option Value:=match op with
 | .eql=>some (.bool (a.data.toList == b.data.toList))
 | .neq=>some (.bool (!(a.data.toList == b.data.toList)))
 | .lss=>some (.bool (Op.bytesLess a.data.toList b.data.toList))
 | _=>none
theorem RS.binStr [Pend] {op:BinOp} {t yt:TypeId} {x y:Operand} {a b:ByteArray} {v:Value} (hw:wantB ops ⟨some d,.binOp op t x y yt,ty,pos,af,gd⟩ ⟨fl,nt⟩=some true) (hd:Nat.blt d nt=true)
 (hx:Fr.ev ⟨fl,nt⟩ x=some (.string a)) (hy:Fr.ev ⟨fl,nt⟩ y=some (.string b)) (hv:binS op a b=some v)
 (hk:RS P ops draw (recP h.k false [] (some [])::rs) l ⟨(d,v)::fl,nt⟩ h K):RS P ops draw rs (⟨some d,.binOp op t x y yt,ty,pos,af,gd⟩::l) ⟨fl,nt⟩ h K:=by
 have hf:bnd 0 v:=by cases op<;>simp only [binS,Option.some.injEq,reduceCtorEq] at hv<;>subst hv<;>simp
 refine RS.free hw hd (fun c g H=>tx_bin (u:=.string a) (w:=.string b) rfl (g.ev hx) (g.ev hy) (fun W=>?_) hf) hf hk
 cases op<;>simp only [binS,Option.some.injEq,reduceCtorEq] at hv<;>subst hv<;>simp [binOp,Op.stringOp,Lib.toList_data]
theorem RS.strAdd [Pend] {t yt:TypeId} {x y:Operand} {a b:ByteArray} (hw:wantB ops ⟨some d,.binOp .add t x y yt,ty,pos,af,gd⟩ ⟨fl,nt⟩=some true) (hd:Nat.blt d nt=true)
 (hx:Fr.ev ⟨fl,nt⟩ x=some (.string a)) (hy:Fr.ev ⟨fl,nt⟩ y=some (.string b)) (hs:a.size+b.size≤9223372036854775807)
 (hk:RS P ops draw (recP h.k false [] (some [])::rs) l ⟨(d,.string (a++b))::fl,nt⟩ h K):RS P ops draw rs (⟨some d,.binOp .add t x y yt,ty,pos,af,gd⟩::l) ⟨fl,nt⟩ h K :=
 RS.free hw hd (fun c g H=>tx_bin (u:=.string a) (w:=.string b) rfl (g.ev hx) (g.ev hy) (fun W=>by
  have:¬ (((a.size+b.size:Nat):Int) > IntKind.i64.max):=by simp only [IntKind.max,IntKind.signed,IntKind.bits];simp;omega
  simp only [binOp,Op.stringOp]
  rw [if_neg this];rfl) (by simp)) (by simp) hk
theorem RS.boolEq [Pend] {op:BinOp} {q:Bool} {t yt:TypeId} {x y:Operand} {a b:Bool} [hu:TyU P t .bool] (hw:wantB ops ⟨some d,.binOp op t x y yt,ty,pos,af,gd⟩ ⟨fl,nt⟩=some true) (hd:Nat.blt d nt=true)
 (hx:Fr.ev ⟨fl,nt⟩ x=some (.bool a)) (hy:Fr.ev ⟨fl,nt⟩ y=some (.bool b)) (hq:isEq op=some q)
 (hk:RS P ops draw (recP h.k false [] (some [])::rs) l ⟨(d,.bool (match q with|true=>a == b|false=>!(a == b)))::fl,nt⟩ h K):RS P ops draw rs (⟨some d,.binOp op t x y yt,ty,pos,af,gd⟩::l) ⟨fl,nt⟩ h K:=by
 refine RS.free hw hd (fun c g H=>tx_bin (u:=.bool a) (w:=.bool b) rfl (g.ev hx) (g.ev hy) (fun W=>?_) (by simp)) (by simp) hk
 have he:(Op.equal t (.bool a) (.bool b)).run P W=.ok (a == b) W:=by
  show (Op.equalIn (9999+1) t (.bool a) (.bool b)).run P W=_
  rw [Op.equalIn,Sem.run_bind,rU hu.eq];rfl
 cases op<;>simp only [isEq,Option.some.injEq,reduceCtorEq] at hq<;>subst hq<;>simp [binOp,he]
theorem RS.not [Pend] {t:TypeId} {x:Operand} {a:Bool} (hw:wantB ops ⟨some d,.unOp .not t x,ty,pos,af,gd⟩ ⟨fl,nt⟩=some true) (hd:Nat.blt d nt=true) (hx:Fr.ev ⟨fl,nt⟩ x=some (.bool a))
 (hk:RS P ops draw (recP h.k false [] (some [])::rs) l ⟨(d,.bool (!a))::fl,nt⟩ h K):RS P ops draw rs (⟨some d,.unOp .not t x,ty,pos,af,gd⟩::l) ⟨fl,nt⟩ h K :=
 RS.free hw hd (fun c g H=>TX.pure (fun _ _=>by simp) (fun z hz=>by
  simp only [Op.operands,List.mem_toArray,List.mem_cons,List.not_mem_nil,or_false] at hz
  subst hz;rw [g.ev hx];simp) (fun W=>by simp [execOp,g.ev hx,Op.unary]) (by simp)) (by simp) hk
theorem RS.pure1 [Pend] {op:Op} {x:Operand} {u v:Value} (hop:op.operands=#[x]) (hs:∀ cs b,op≠.select cs b) (hw:wantB ops ⟨some d,op,ty,pos,af,gd⟩ ⟨fl,nt⟩=some true) (hd:Nat.blt d nt=true) (hx:Fr.ev ⟨fl,nt⟩ x=some u) (hu:bnd 0 u) (hv:bnd 0 v)
 (hr:∀ (ev:Operand→Value) W,ev x=u→(execOp ev ⟨some d,op,ty,pos,af,gd⟩).run P W=.ok (.value v) W)
 (hk:RS P ops draw (recP h.k false [] (some [])::rs) l ⟨(d,v)::fl,nt⟩ h K):RS P ops draw rs (⟨some d,op,ty,pos,af,gd⟩::l) ⟨fl,nt⟩ h K :=
 RS.free hw hd (fun c g H=>TX.pure hs (fun z hz=>by
  rw [show (⟨some d,op,ty,pos,af,gd⟩:Oper).op.operands=#[x] from hop] at hz
  simp only [List.mem_toArray,List.mem_cons,List.not_mem_nil,or_false] at hz
  subst hz;rw [g.ev hx];exact hu) (fun W=>hr _ W (g.ev hx)) hv) hv hk
theorem RS.lenStr [Pend] {t:TypeId} {x:Operand} {s:ByteArray} [hu:TyU P t .string] (hw:wantB ops ⟨some d,.call { callee:=.builtin .len,args:=#[x],argTypes:=#[t] },ty,pos,af,gd⟩ ⟨fl,nt⟩=some true) (hd:Nat.blt d nt=true) (hx:Fr.ev ⟨fl,nt⟩ x=some (.string s))
 (hk:RS P ops draw (recP h.k false [] (some [])::rs) l ⟨(d,.int .i64 (s.size:Int))::fl,nt⟩ h K):RS P ops draw rs (⟨some d,.call { callee:=.builtin .len,args:=#[x],argTypes:=#[t] },ty,pos,af,gd⟩::l) ⟨fl,nt⟩ h K :=
 RS.pure1 (by simp [Op.operands,Call.operands]) (by simp) hw hd hx (by simp) (by simp) (fun ev W he=>by simp [execOp,resolve,invoke,builtin,Builtin.len_,rU hu.eq,he,goInt]) hk
theorem RS.lenSl [Pend] {t:TypeId} {x:Operand} {e:TypeId} {A:Option Addr} {n c:Nat} [hu:TyU P t (.slice e)] (hw:wantB ops ⟨some d,.call { callee:=.builtin .len,args:=#[x],argTypes:=#[t] },ty,pos,af,gd⟩ ⟨fl,nt⟩=some true) (hd:Nat.blt d nt=true) (hx:Fr.ev ⟨fl,nt⟩ x=some (.slice A n c))
 (hk:RS P ops draw (recP h.k false [] (some [])::rs) l ⟨(d,.int .i64 (n:Int))::fl,nt⟩ h K):RS P ops draw rs (⟨some d,.call { callee:=.builtin .len,args:=#[x],argTypes:=#[t] },ty,pos,af,gd⟩::l) ⟨fl,nt⟩ h K :=
 RS.free hw hd (fun a g H=>TX.lenSlice rfl hu.eq (g.ev hx)) (by simp) hk
theorem tx_two [Pend] {op:Op} {x y:Operand} {u w v:Value} {a:Act} {H:Hp} (hop:op.operands=#[x,y]) (hs:∀ cs b,op≠.select cs b) (hx:a.eval x=u) (hy:a.eval y=w) (hu:bnd 0 u) (hw:bnd 0 w) (hv:bnd 0 v)
 (hr:∀ (ev:Operand→Value) W,ev x=u→ev y=w→(execOp ev ⟨some d,op,ty,pos,af,gd⟩).run P W=.ok (.value v) W):TX P ⟨some d,op,ty,pos,af,gd⟩ a.eval H v H :=
 TX.pure hs (fun z hz=>by
  rw [show (⟨some d,op,ty,pos,af,gd⟩:Oper).op.operands=#[x,y] from hop] at hz
  simp only [List.mem_toArray,List.mem_cons,List.not_mem_nil,or_false] at hz
  rcases hz with rfl|rfl
  ·rw [hx];exact hu
  ·rw [hy];exact hw) (fun W=>hr _ W hx hy) hv
theorem RS.indexStr [Pend] {t:TypeId} {x y:Operand} {s:ByteArray} {k:IntKind} {i:Int} {n:Nat} [hu:TyU P t .string] (hw:wantB ops ⟨some d,.index t x y,ty,pos,af,gd⟩ ⟨fl,nt⟩=some true) (hd:Nat.blt d nt=true) (hx:Fr.ev ⟨fl,nt⟩ x=some (.string s)) (hy:Fr.ev ⟨fl,nt⟩ y=some (.int k i)) (hi:i=(n:Int)) (hn:n < s.size)
 (hk:RS P ops draw (recP h.k false [] (some [])::rs) l ⟨(d,.int .u8 ((s[n]'hn).toNat:Int))::fl,nt⟩ h K):RS P ops draw rs (⟨some d,.index t x y,ty,pos,af,gd⟩::l) ⟨fl,nt⟩ h K :=
 RS.free hw hd (fun a g H=>tx_two rfl (by simp) (g.ev hx) (g.ev hy) (by simp) (by simp) (by simp) (fun ev W h1 h2=>by
  subst hi
  have:s[n]?=some (s[n]'hn):=by simp [hn]
  simp [execOp,Instr.index,h1,h2,asIntOf,rU hu.eq,this])) (by simp) hk
def bndS (fl:List (Nat × Value)) (nt:Nat) (x:Option Operand) (dflt n:Nat):Prop:=match x with
 | none=>n=dflt
 | some y=>∃ k i,Fr.ev ⟨fl,nt⟩ y=some (.int k i)∧i=(n:Int)
theorem bndS_ok [Pend] {x:Option Operand} {dflt n:Nat} {a:Act} (g:Agr ⟨fl,nt⟩ a) (hb:bndS fl nt x dflt n):boundIs a.eval x dflt n:=by
 cases x with
 | none=>exact hb
 | some y=>obtain ⟨k,i,h1,h2⟩:=hb;exact ⟨k,by rw [g.ev h1,h2]⟩
theorem bnd_run0 [Pend] {ev:Operand→Value} {x:Option Operand} {dflt n y:Nat} {code:BoundsCode} (hb:boundIs ev x dflt n) (hn:n≤y) (W:World) :
 (match (x.map ev) with|some v=>Instr.sliceBound v y code|none=>Pure.pure dflt:Sem Nat).run P W=.ok n W:=by
 cases x with
 | none=>simp only [boundIs] at hb;subst hb;rfl
 | some z =>
  obtain ⟨k,hk⟩:=hb
  simp only [Option.map_some,hk,Instr.sliceBound]
  have:(0:Int)≤n∧(n:Int)≤y:=⟨by omega,by omega⟩
  simp [asIntOf,this]
theorem RS.sliceStr [Pend] {t:TypeId} {x:Operand} {lo hi:Option Operand} {s:ByteArray} {l0 h0:Nat} [hu:TyU P t .string] (hw:wantB ops ⟨some d,.slice t x lo hi none,ty,pos,af,gd⟩ ⟨fl,nt⟩=some true) (hd:Nat.blt d nt=true) (hx:Fr.ev ⟨fl,nt⟩ x=some (.string s))
 (hlo:bndS fl nt lo 0 l0) (hhi:bndS fl nt hi s.size h0) (h1:l0≤h0) (h2:h0≤s.size)
 (hk:RS P ops draw (recP h.k false [] (some [])::rs) l ⟨(d,.string (s.extract l0 h0))::fl,nt⟩ h K):RS P ops draw rs (⟨some d,.slice t x lo hi none,ty,pos,af,gd⟩::l) ⟨fl,nt⟩ h K:=by
 refine RS.free hw hd (fun a g H=>TX.pure (fun _ _=>by simp) (fun z hz=>?_) (fun W=>?_) (by simp)) (by simp) hk
 ·have bl:=bndS_ok g hlo
  have bh:=bndS_ok g hhi
  simp only [Op.operands] at hz
  simp only [Array.mem_append,List.mem_toArray,List.mem_singleton,Option.toArray_none,Array.not_mem_empty,or_false,or_assoc] at hz
  rcases hz with rfl|hz|hz
  ·rw [g.ev hx];simp
  ·cases lo with
   | none=>simp at hz
   | some y=>simp at hz;subst hz;obtain ⟨k,hk⟩:=bl;rw [hk];simp
  ·cases hi with
   | none=>simp at hz
   | some y=>simp at hz;subst hz;obtain ⟨k,hk⟩:=bh;rw [hk];simp
 ·have bl:=bnd_run0 (P:=P) (code:=.sliceB) (bndS_ok g hlo) h1 W
  have bh:=bnd_run0 (P:=P) (code:=.sliceAlen) (bndS_ok g hhi) h2 W
  simp only [execOp,Instr.sliceAt,Instr.slice,Instr.sliceBounds,g.ev hx,Sem.run_bind,rU hu.eq,Result.andThen_ok,Option.map_none,Option.isSome_none,Bool.false_eq_true,if_false,Sem.run_pure]
  cases hi<;>cases lo<;>simp_all
theorem RS.convI [Pend] {t t':TypeId} {x:Operand} {k k0 k':IntKind} {n:Int} [hu:TyU P t (.int k)] [hu':TyU P t' (.int k')] (hw:wantB ops ⟨some d,.convert t t' x,ty,pos,af,gd⟩ ⟨fl,nt⟩=some true) (hd:Nat.blt d nt=true) (hx:Fr.ev ⟨fl,nt⟩ x=some (.int k0 n))
 (hk:RS P ops draw (recP h.k false [] (some [])::rs) l ⟨(d,.int k' (k'.wrap n))::fl,nt⟩ h K):RS P ops draw rs (⟨some d,.convert t t' x,ty,pos,af,gd⟩::l) ⟨fl,nt⟩ h K :=
 RS.pure1 rfl (by simp) hw hd hx (by simp) (by simp) (fun ev W he=>by simp [execOp,convert,rU hu.eq,rU hu'.eq,he,Conv.intToInt]) hk
theorem RS.extract [Pend] {x:Operand} {i:Nat} {vs:Array Value} {v:Value} (hw:wantB ops ⟨some d,.extract x i,ty,pos,af,gd⟩ ⟨fl,nt⟩=some true) (hd:Nat.blt d nt=true) (hx:Fr.ev ⟨fl,nt⟩ x=some (.tuple vs)) (hv:vs[i]?=some v)
 (hk:RS P ops draw (recP h.k false [] none::rs) l ⟨(d,v)::fl,nt⟩ h K):RS P ops draw rs (⟨some d,.extract x i,ty,pos,af,gd⟩::l) ⟨fl,nt⟩ h K :=
 RS.still (nv:=none) hw hd (fun a g H=>TX.extract rfl (g.ev hx) hv) trivial hk
def evAll (fl:List (Nat × Value)) (nt:Nat):List Operand→Option (List Value)
 | []=>some []
 | x::xs=>match Fr.ev ⟨fl,nt⟩ x,evAll fl nt xs with
  | some v,some vs=>some (v::vs)
  | _,_=>none
theorem evAll_ok [Pend] {a:Act} (g:Agr ⟨fl,nt⟩ a):∀ {xs:List Operand} {vs:List Value},evAll fl nt xs=some vs→xs.map a.eval=vs:=by
 intro xs
 induction xs with
 | nil=>intro vs h;simp [evAll] at h;subst h;rfl
 | cons x xs ih =>
  intro vs h
  simp only [evAll] at h
  split at h
  ·rename_i v us h1 h2
   simp only [Option.some.injEq] at h
   subst h
   simp [g.ev h1,ih h2]
  ·cases h
theorem tx_call [Pend] {g0:FuncId} {xs:Array Operand} {ts:Array TypeId} {vs:List Value} {v:Value} {a:Act} {H H':Hp} [hg:GF P g0] (g:Agr ⟨fl,nt⟩ a) (hx:evAll fl nt xs.toList=some vs) (ht:TF P g0 ⟨vs⟩ H v H') :
 TX P ⟨some d,.call { callee:=.value (.func g0),args:=xs,argTypes:=ts },ty,pos,af,gd⟩ a.eval H v H':=by
 have hok:=hg.ok
 cases hf:P.funcs[g0]? with
 | none=>rw [hf] at hok;cases hok
 | some fn =>
  rw [hf] at hok
  simp only [Option.map_some,Option.some.injEq,Bool.and_eq_true,Bool.not_eq_true'] at hok
  refine TX.call rfl (f:=g0) (first:=#[]) (captured:=#[]) rfl hf hok.1 (by cases hb:fn.body<;>simp_all) ?_
  have:((#[]++xs.map a.eval)++#[]:Array Value)=⟨vs⟩:=by
   apply Array.ext'
   simp [evAll_ok g hx]
  rw [this];exact ht
theorem RS.callP [Pend] {g0:FuncId} {xs:Array Operand} {ts:Array TypeId} {vs:List Value} {v:Value} {nv:Option (List Nat)} [hg:GF P g0] (hw:wantB ops ⟨some d,.call { callee:=.value (.func g0),args:=xs,argTypes:=ts },ty,pos,af,gd⟩ ⟨fl,nt⟩=some true) (hd:Nat.blt d nt=true)
 (hx:evAll fl nt xs.toList=some vs) (ht:∀ H,TF P g0 ⟨vs⟩ H v H) (hnv:NmO h.base.n h.π nv v)
 (hk:RS P ops draw (recP h.k false [] nv::rs) l ⟨(d,v)::fl,nt⟩ h K):RS P ops draw rs (⟨some d,.call { callee:=.value (.func g0),args:=xs,argTypes:=ts },ty,pos,af,gd⟩::l) ⟨fl,nt⟩ h K :=
 RS.still hw hd (fun a g H=>tx_call g hx (ht H)) hnv hk
end
end Go.AH
namespace Go.AH
variable {P:Program}
def nthV:List Value→Nat→Option Value
 | [],_=>none
 | v::_,0=>some v
 | _::l,i+1=>nthV l i
theorem nthV_eq:∀ (l:List Value) (i:Nat),nthV l i=l[i]?:=by
 intro l
 induction l with
 | nil=>intro i;rfl
 | cons v l ih=>intro i;cases i with
  | zero=>rfl
  | succ i=>simpa [nthV] using ih i
def setL:List Value→Nat→List Value→List Value
 | [],_,_=>[]
 | c::cs,0,[]=>c::cs
 | _::cs,0,v::vs=>v::setL cs 0 vs
 | c::cs,i+1,vs=>c::setL cs i vs
theorem setL_nil:∀ (cs:List Value) (i:Nat),setL cs i []=cs:=by
 intro cs
 induction cs with
 | nil=>intro i;cases i<;>rfl
 | cons c cs ih=>intro i;cases i with
  | zero=>rfl
  | succ i=>simp [setL,ih]
theorem setL_cons:∀ (cs:List Value) (i:Nat) (v:Value) (vs:List Value),setL cs i (v::vs)=setL (cs.set i v) (i+1) vs:=by
 intro cs
 induction cs with
 | nil=>intro i v vs;cases i<;>rfl
 | cons c cs ih=>intro i v vs;cases i with
  | zero=>simp [setL]
  | succ i=>simp [setL,ih]
theorem setFrom_eq:∀ (vs:List Value) (cs:List Value) (i:Nat),setFrom ⟨cs⟩ i vs=⟨setL cs i vs⟩:=by
 intro vs
 induction vs with
 | nil=>intro cs i;rw [setL_nil];rfl
 | cons v vs ih =>
  intro cs i
  rw [setFrom,setL_cons,← ih]
  congr 1
  apply Array.ext'
  simp
def takeV:Nat→Nat→List Value→List Value
 | _,0,_=>[]
 | _,_,[]=>[]
 | 0,n+1,v::l=>v::takeV 0 n l
 | i+1,n+1,_::l=>takeV i (n+1) l
theorem takeV_eq:∀ (l:List Value) (i n:Nat),takeV i n l=(l.drop i).take n:=by
 intro l
 induction l with
 | nil=>intro i n;cases n<;>cases i<;>rfl
 | cons v l ih=>intro i n;cases n with
  | zero=>cases i<;>simp [takeV]
  | succ n=>cases i with
   | zero=>simp [takeV,ih]
   | succ i=>simp [takeV,ih]
def cellsV:Value→List Value
 | .agg ⟨cs⟩=>cs
 | v=>[v]
theorem cellsV_eq (v:Value):v.cells=⟨cellsV v⟩:=by cases v<;>rfl
section
variable {ops:Array Oper} {draw:Bool} {rs:List Rk} {l:List Oper} {fl:List (Nat × Value)} {nt:Nat} {B:Hp} {π:Nat→Nat} {k:Nat} {hl:List (Nat × Option Blk)} {K:Fr→SH→Prop} {d:Tmp} {ty:TypeId} {pos:String} {af:Array Edge} {gd:Option (Nat × Bool)}
theorem RS.alloc [Pend] {t:TypeId} {z:Value} [hz:TyZ P t z] (hw:wantB ops ⟨some d,.alloc t,ty,pos,af,gd⟩ ⟨fl,nt⟩=some true) (hd:Nat.blt d nt=true)
 (hk:RS P ops draw (recN k false [] (some [k]) (some [])::rs) l ⟨(d,.pointer (some ⟨π k,0,none⟩))::fl,nt⟩ ⟨B,π,k+1,(k,some ⟨⟨cellsV z⟩,t⟩)::hl⟩ K):RS P ops draw rs (⟨some d,.alloc t,ty,pos,af,gd⟩::l) ⟨fl,nt⟩ ⟨B,π,k,hl⟩ K:=by
 have h1:=hz.eq
 cases hi:P.info? t with
 | none=>rw [hi] at h1;cases h1
 | some ti =>
  rw [hi] at h1
  have h2:ti.zero=some z:=h1
  have hzf:=freeB_bnd hz.fr
  refine RS.step hw hd (One.new (h:=⟨B,π,k,hl⟩) (b:=⟨⟨cellsV z⟩,t⟩) (fun a g H hs=>?_) ?_ fun u hu=>?_) hk
  ·have:=TX.alloc (P:=P) (o:=⟨some d,.alloc t,ty,pos,af,gd⟩) (ev:=a.eval) (h:=H) rfl hi h2 hzf hz.ltT
   rw [hs.n,cellsV_eq] at this;exact this
  ·show ment _ _
   rw [ment];exact .inr ⟨k,by simp,rfl⟩
  ·refine Nm_free ?_
   have hm:u∈z.cells:=by rw [cellsV_eq];exact hu
   cases z<;>simp only [Value.cells] at hm<;>first|(simp only [bnd_agg] at hzf;exact hzf u hm)|(simp only [List.mem_toArray,List.mem_singleton] at hm;subst hm;exact hzf)
theorem RS.box [Pend] {t:TypeId} {x:Operand} {v:Value} {bsz:Nat} [hbx:TySz P t bsz] (hw:wantB ops ⟨some d,.box t x,ty,pos,af,gd⟩ ⟨fl,nt⟩=some true) (hd:Nat.blt d nt=true) (hx:Fr.ev ⟨fl,nt⟩ x=some v)
 (hk:RS P ops draw (recN k false [] (some [k]) none::rs) l ⟨(d,.pointer (some ⟨π k,0,none⟩))::fl,nt⟩ ⟨B,π,k+1,(k,some ⟨⟨cellsV v⟩,t⟩)::hl⟩ K):RS P ops draw rs (⟨some d,.box t x,ty,pos,af,gd⟩::l) ⟨fl,nt⟩ ⟨B,π,k,hl⟩ K:=by
 refine RS.step hw hd (One.new (h:=⟨B,π,k,hl⟩) (b:=⟨⟨cellsV v⟩,t⟩) (cn:=none) (fun a g H hs=>?_) ?_ fun u hu=>trivial) hk
 ·have:=TX.box (P:=P) (o:=⟨some d,.box t x,ty,pos,af,gd⟩) (ev:=a.eval) (h:=H) rfl hbx.ltT
  rw [hs.n,cellsV_eq,g.ev hx] at this;exact this
 ·show ment _ _
  rw [ment];exact .inr ⟨k,by simp,rfl⟩
theorem RS.fieldAddr [Pend] {t:TypeId} {x:Operand} {i off:Nat} {blk o0:Nat} [ho:FOff P t i off] (hw:wantB ops ⟨some d,.fieldAddr t x i,ty,pos,af,gd⟩ ⟨fl,nt⟩=some true) (hd:Nat.blt d nt=true) (hx:Fr.ev ⟨fl,nt⟩ x=some (.pointer (some ⟨blk,o0,none⟩)))
 (hk:RS P ops draw (recP k false [] none::rs) l ⟨(d,.pointer (some ⟨blk,o0+off,none⟩))::fl,nt⟩ ⟨B,π,k,hl⟩ K):RS P ops draw rs (⟨some d,.fieldAddr t x i,ty,pos,af,gd⟩::l) ⟨fl,nt⟩ ⟨B,π,k,hl⟩ K:=by
 refine RS.still (nv:=none) (h:=⟨B,π,k,hl⟩) hw hd (fun a g H=>?_) trivial hk
 have h1:=ho.eq
 unfold offOf at h1
 split at h1
 ·rename_i fs hu
  split at h1
  ·rename_i f hf
   split at h1
   ·rename_i fi hi
    cases hz:Nat.beq fi.size 0 with
    | true=>rw [hz] at h1;cases h1
    | false =>
     rw [hz] at h1
     simp only [cond_false,Option.some.injEq] at h1
     have:=TX.fieldAddr (P:=P) (o:=⟨some d,.fieldAddr t x i,ty,pos,af,gd⟩) (ev:=a.eval) (h:=H) rfl hu hf hi (fun e=>by rw [e] at hz;cases hz) (g.ev hx)
     rw [h1,add_eq] at this
     cases hb:Nat.beq off 0 with
     | true=>have:=Nat.eq_of_beq_eq_true hb;subst this;rw [hb] at *;exact this
     | false=>rw [hb] at this;exact this
   ·cases h1
  ·cases h1
 ·cases h1
theorem RS.load1 [Pend] {t:TypeId} {x:Operand} {i off:Nat} {cs:List Value} {e:TypeId} {v:Value} [hu:TyOne P t] (hw:wantB ops ⟨some d,.load t x,ty,pos,af,gd⟩ ⟨fl,nt⟩=some true) (hd:Nat.blt d nt=true) (hx:Fr.ev ⟨fl,nt⟩ x=some (.pointer (some ⟨π i,off,none⟩)))
 (hi:Nat.blt i k=true) (hb:lookB hl i=some ⟨⟨cs⟩,e⟩) (hv:nthV cs off=some v)
 (hk:RS P ops draw (recP k false [i] none::rs) l ⟨(d,v)::fl,nt⟩ ⟨B,π,k,hl⟩ K):RS P ops draw rs (⟨some d,.load t x,ty,pos,af,gd⟩::l) ⟨fl,nt⟩ ⟨B,π,k,hl⟩ K:=by
 have h1:=hu.eq
 cases ht:P.underlying t with
 | none=>rw [ht] at h1;cases h1
 | some td =>
  rw [ht] at h1
  simp only [Option.map_some,Option.some.injEq] at h1
  refine RS.step hw hd (One.reads (h:=⟨B,π,k,hl⟩) (nv:=none) (fun a g H hs=>?_) trivial) hk
  exact TX.load1 rfl ht h1 (g.ev hx) rfl (by have:=hs.l i (memL_self i []) (blt_iff.1 hi);rw [this];exact hb) (by show cs.toArray[off]?=_;rw [List.getElem?_toArray,← nthV_eq];exact hv)
theorem RS.loadN [Pend] {t:TypeId} {x:Operand} {i off size:Nat} {cs:List Value} {e:TypeId} [hu:TyAgg P t size] (hw:wantB ops ⟨some d,.load t x,ty,pos,af,gd⟩ ⟨fl,nt⟩=some true) (hd:Nat.blt d nt=true) (hx:Fr.ev ⟨fl,nt⟩ x=some (.pointer (some ⟨π i,off,none⟩)))
 (hi:Nat.blt i k=true) (hb:lookB hl i=some ⟨⟨cs⟩,e⟩) (hn:off+size≤cs.length)
 (hk:RS P ops draw (recP k false [i] none::rs) l ⟨(d,.agg ⟨takeV off size cs⟩)::fl,nt⟩ ⟨B,π,k,hl⟩ K):RS P ops draw rs (⟨some d,.load t x,ty,pos,af,gd⟩::l) ⟨fl,nt⟩ ⟨B,π,k,hl⟩ K:=by
 obtain ⟨h1,h2⟩:=hu.eq
 cases ht:P.underlying t with
 | none=>rw [ht] at h1;cases h1
 | some td =>
  cases hti:P.info? t with
  | none=>rw [hti] at h2;cases h2
  | some ti =>
   rw [ht] at h1;rw [hti] at h2
   simp only [Option.map_some,Option.some.injEq] at h1 h2
   refine RS.step hw hd (One.reads (h:=⟨B,π,k,hl⟩) (nv:=none) (fun a g H hs=>?_) trivial) hk
   have:=TX.loadN (P:=P) (o:=⟨some d,.load t x,ty,pos,af,gd⟩) (ev:=a.eval) (h:=H) rfl ht h1 hti (g.ev hx) rfl (by have:=hs.l i (memL_self i []) (blt_iff.1 hi);rw [this];exact hb) (by rw [h2];simpa using hn)
   rw [h2] at this
   have e:(⟨cs⟩:Array Value).extract off (off+size)=⟨takeV off size cs⟩:=by
    apply Array.ext';simp [takeV_eq]
   rw [e] at this
   exact this
theorem RS.store [Pend] {t:TypeId} {x y:Operand} {i off size:Nat} {cs cs':List Value} {e:TypeId} {v:Value} [hu:TySz P t size] (hw:wantB ops ⟨none,.store t x y,ty,pos,af,gd⟩ ⟨fl,nt⟩=some true) (hx:Fr.ev ⟨fl,nt⟩ x=some (.pointer (some ⟨π i,off,none⟩))) (hy:Fr.ev ⟨fl,nt⟩ y=some v)
 (hi:Nat.blt i k=true) (hb:lookB hl i=some ⟨⟨cs⟩,e⟩) (hn:off+size≤cs.length) (hsz:Nat.beq (cellsV v).length size=true) (hone:(cellsV v).all (·.oneCell')=true) (hc:setL cs off (cellsV v)=cs')
 (hk:RS P ops draw (recW k false [] i (some []) none::rs) l ⟨fl,nt⟩ ⟨B,π,k,(i,some ⟨⟨cs'⟩,e⟩)::hl⟩ K):RS P ops draw rs (⟨none,.store t x y,ty,pos,af,gd⟩::l) ⟨fl,nt⟩ ⟨B,π,k,hl⟩ K:=by
 have h2:=hu.eq
 cases hti:P.info? t with
 | none=>rw [hti] at h2;cases h2
 | some ti =>
  rw [hti] at h2
  simp only [Option.map_some,Option.some.injEq] at h2
  refine RS.step (v:=undef) hw rfl (One.write (h:=⟨B,π,k,hl⟩) (b:=⟨⟨cs⟩,e⟩) (b':=⟨⟨cs'⟩,e⟩) (nv:=some []) (cn:=none) hi hb (fun a g H hs=>?_) Nm_undef (fun u _=>trivial)) hk
  have hm:H.m (π i)=some ⟨⟨cs⟩,e⟩:=by have:=hs.l i (memL_self i []) (blt_iff.1 hi);rw [this];exact hb
  have hs2:=Nat.eq_of_beq_eq_true hsz
  have:=TX.store (P:=P) (o:=⟨none,.store t x y,ty,pos,af,gd⟩) (ev:=a.eval) (h:=H) rfl hti (g.ev hx) rfl (hs.own i (blt_iff.1 hi)) hm (by rw [g.ev hy,cellsV_eq,h2];exact hs2) (by rw [g.ev hy];unfold oneCells;rw [cellsV_eq];simpa using hone) (by rw [h2];simpa using hn)
  rw [g.ev hy,cellsV_eq] at this
  simp only [setFrom_eq,hc] at this
  exact this
end
def nthP:List (Nat × Nat)→Nat→Option (Nat × Nat)
 | [],_=>none
 | v::_,0=>some v
 | _::l,i+1=>nthP l i
theorem nthP_eq:∀ (l:List (Nat × Nat)) (i:Nat),nthP l i=l[i]?:=by
 intro l
 induction l with
 | nil=>intro i;rfl
 | cons v l ih=>intro i;cases i with
  | zero=>rfl
  | succ i=>simpa [nthP] using ih i
def fillP (pl:List (Nat × Nat)):List Value→List (Nat × Value)→Option (List Value)
 | cs,[]=>some cs
 | cs,(i,v)::rest=>match nthP pl i with
  | none=>none
  | some (off,size)=>bif Nat.beq (cellsV v).length size && Nat.ble (off+size) cs.length then fillP pl (setL cs off (cellsV v)) rest else none
theorem foldl_zip:∀ (vs:List Value) (cs:List Value) (off j:Nat),(vs.zipIdx j).foldl (fun (cs:Array Value) (p:Value × Nat)=>cs.setIfInBounds (off+p.2) p.1) ⟨cs⟩=⟨setL cs (off+j) vs⟩:=by
 intro vs
 induction vs with
 | nil=>intro cs off j;simp [setL_nil]
 | cons v vs ih =>
  intro cs off j
  rw [List.zipIdx_cons,List.foldl_cons,setL_cons]
  have e:(⟨cs⟩:Array Value).setIfInBounds (off+j) v=⟨cs.set (off+j) v⟩:=by apply Array.ext';simp
  simp only [e,ih,Nat.add_assoc]
theorem fillP_eq {pl:List (Nat × Nat)}:∀ {parts:List (Nat × Value)} {cs cs':List Value},fillP pl cs parts=some cs'→Instr.fill (pl.toArray[·]?) ⟨cs⟩ parts=some ⟨cs'⟩:=by
 intro parts
 induction parts with
 | nil=>intro cs cs' h;simp only [fillP,Option.some.injEq] at h;subst h;rfl
 | cons p rest ih =>
  obtain ⟨i,v⟩:=p
  intro cs cs' h
  simp only [fillP] at h
  split at h
  ·cases h
  ·rename_i off size hp
   cases hc:(Nat.beq (cellsV v).length size && Nat.ble (off+size) cs.length) with
   | false=>rw [hc] at h;cases h
   | true =>
    rw [hc] at h
    simp only [cond_true] at h
    simp only [Bool.and_eq_true] at hc
    have h1:=Nat.eq_of_beq_eq_true hc.1
    have h2:=ble_iff.1 hc.2
    simp only [Instr.fill]
    rw [List.getElem?_toArray,← nthP_eq,hp]
    simp only [cellsV_eq,List.size_toArray]
    have e3:(⟨cellsV v⟩:Array Value).zipIdx.foldl (fun (cs:Array Value) (p:Value × Nat)=>cs.setIfInBounds (off+p.2) p.1) (⟨cs⟩:Array Value)=(⟨setL cs off (cellsV v)⟩:Array Value):=by
     rw [← Array.foldl_toList,Array.toList_zipIdx]
     exact foldl_zip (cellsV v) cs off 0
    have hcond:¬ ((decide ((cellsV v).length≠size) || decide (off+(cellsV v).length > cs.length))=true):=by
     simp [h1];omega
    rw [if_neg hcond,e3]
    exact ih h
def placesOf (P:Program) (t:TypeId):Option (List (Nat × Nat)):=match P.underlying t with
 | some (.struct fields)=>fields.toList.mapM (fun f=>(P.info? f.type).map fun i=>(f.offset,i.size))
 | _=>none
class TyS (P:Program) (t:TypeId) (zs:outParam (List Value)) (pl:outParam (List (Nat × Nat))):Prop where
 zero:(P.info? t).bind (·.zero)=some (.agg ⟨zs⟩)
 fr:zs.all freeS=true
 pl:placesOf P t=some pl
def partsV (fl:List (Nat × Value)) (nt:Nat):List (Nat × Operand)→Option (List (Nat × Value))
 | []=>some []
 | (i,x)::xs=>match Fr.ev ⟨fl,nt⟩ x,partsV fl nt xs with
  | some v,some vs=>some ((i,v)::vs)
  | _,_=>none
theorem partsV_ok [Pend] {fl:List (Nat × Value)} {nt:Nat} {a:Act} (g:Agr ⟨fl,nt⟩ a):∀ {xs:List (Nat × Operand)} {vs:List (Nat × Value)},partsV fl nt xs=some vs→xs.map (fun p=>(p.1,a.eval p.2))=vs:=by
 intro xs
 induction xs with
 | nil=>intro vs h;simp [partsV] at h;subst h;rfl
 | cons x xs ih =>
  obtain ⟨i,x⟩:=x
  intro vs h
  simp only [partsV] at h
  split at h
  ·rename_i v us h1 h2
   simp only [Option.some.injEq] at h
   subst h
   simp [g.ev h1,ih h2]
  ·cases h
section
variable {ops:Array Oper} {draw:Bool} {rs:List Rk} {l:List Oper} {fl:List (Nat × Value)} {nt:Nat} {B:Hp} {π:Nat→Nat} {k:Nat} {hl:List (Nat × Option Blk)} {K:Fr→SH→Prop} {d:Tmp} {ty:TypeId} {pos:String} {af:Array Edge} {gd:Option (Nat × Bool)}
theorem RS.build [Pend] {t:TypeId} {parts:Array (Nat × Operand)} {zs cs:List Value} {pl:List (Nat × Nat)} {ps:List (Nat × Value)} [hz:TyS P t zs pl] (hw:wantB ops ⟨some d,.build t parts,ty,pos,af,gd⟩ ⟨fl,nt⟩=some true) (hd:Nat.blt d nt=true)
 (hp:partsV fl nt parts.toList=some ps) (hf:fillP pl zs ps=some cs)
 (hk:RS P ops draw (recP k false [] none::rs) l ⟨(d,.agg ⟨cs⟩)::fl,nt⟩ ⟨B,π,k,hl⟩ K):RS P ops draw rs (⟨some d,.build t parts,ty,pos,af,gd⟩::l) ⟨fl,nt⟩ ⟨B,π,k,hl⟩ K:=by
 refine RS.still (nv:=none) (h:=⟨B,π,k,hl⟩) hw hd (fun a g H=>?_) trivial hk
 have h1:=hz.zero
 cases hi:P.info? t with
 | none=>rw [hi] at h1;cases h1
 | some ti =>
  rw [hi] at h1
  have h2:ti.zero=some (.agg ⟨zs⟩):=h1
  have hzf:bnd 0 (.agg ⟨zs⟩):=by
   rw [bnd_agg];intro v hv
   exact freeS_bnd (List.all_eq_true.1 hz.fr v (by simpa using hv))
  refine TX.build rfl hi h2 hzf ?_
  rw [partsV_ok g hp]
  have h3:=hz.pl
  unfold placesOf at h3
  split at h3
  ·rename_i fields hu
   unfold Program.built
   rw [hi,hu]
   simp only [h2,h3,Value.cells]
   exact fillP_eq hf
  ·cases h3
end
inductive ResV (P:Program) (fl:List (Nat × Value)) (h:SH):ResultVar→Value→Prop
 | tmp {t:Tmp} {v:Value} (hv:findV fl t=some v):ResV P fl h (.tmp t) v
 | cell1 {a:Tmp} {t:TypeId} {i off:Nat} {cs:List Value} {e:TypeId} {v:Value} [hu:TyOne P t] (hx:findV fl a=some (.pointer (some ⟨h.π i,off,none⟩))) (hi:Nat.blt i h.k=true) (hb:lookB h.l i=some ⟨⟨cs⟩,e⟩) (hv:nthV cs off=some v):ResV P fl h (.cell a t) v
 | cellN {a:Tmp} {t:TypeId} {i off size:Nat} {cs:List Value} {e:TypeId} [hu:TyAgg P t size] (hx:findV fl a=some (.pointer (some ⟨h.π i,off,none⟩))) (hi:Nat.blt i h.k=true) (hb:lookB h.l i=some ⟨⟨cs⟩,e⟩) (hn:off+size≤cs.length):ResV P fl h (.cell a t) (.agg ⟨takeV off size cs⟩)
 | baseN {a:Tmp} {t:TypeId} {blk off size:Nat} {cs vs:List Value} {e:TypeId} [hu:TyAgg P t size] (hx:findV fl a=some (.pointer (some ⟨blk,off,none⟩))) (hb:h.base.m blk=some ⟨⟨cs⟩,e⟩) (hn:off+size≤cs.length) (hv:takeV off size cs=vs):ResV P fl h (.cell a t) (.agg ⟨vs⟩)
inductive ResVs (P:Program) (fl:List (Nat × Value)) (h:SH):List ResultVar→List Value→Prop
 | nil:ResVs P fl h [] []
 | cons {r:ResultVar} {rs:List ResultVar} {v:Value} {vs:List Value} (hr:ResV P fl h r v) (hs:ResVs P fl h rs vs):ResVs P fl h (r::rs) (v::vs)
def resultOf:List Value→Value
 | [v]=>v
 | vs=>.tuple ⟨vs⟩
theorem ResV.run [Pend] {fl:List (Nat × Value)} {nt:Nat} {h:SH} (w:h.WF) {r:ResultVar} {v:Value} (hr:ResV P fl h r v) {a:Act} (g:Agr ⟨fl,nt⟩ a) {ρ:Env} {W:World} (hok:HOK P.globals.size h.den ρ W):(resF (renA ρ a).tmps r).run P W=.ok (ren ρ v) W:=by
 have ev:∀ {t:Tmp} {v:Value},findV fl t=some v→(renA ρ a).tmps.getD t undef=ren ρ v:=by
  intro t v hv
  rw [ren_getD]
  have:=g.get t v hv
  simp [Array.getD_eq_getD_getElem?,this]
 cases hr with
 | tmp hv=>simp only [resF,Sem.run_pure,ev hv]
 | @cell1 a' t i off cs e v hu hx hi hb hv =>
  have hm:h.den.m (h.π i)=some ⟨⟨cs⟩,e⟩:=by rw [SH.m_loc w (blt_iff.1 hi)];exact hb
  have h1:=hu.eq
  cases ht:P.underlying t with
  | none=>rw [ht] at h1;cases h1
  | some td =>
   rw [ht] at h1
   simp only [Option.map_some,Option.some.injEq] at h1
   have hg:(⟨⟨cs⟩,e⟩:Blk).cells[off]?=some v:=by show cs.toArray[off]?=_;rw [List.getElem?_toArray,← nthV_eq];exact hv
   have hc:=hok.cell (a:=⟨h.π i,off,none⟩) hm rfl hg
   simp only [resF,ev hx,ren_ptr,asAddr,Sem.run_bind,Sem.run_pure,Result.andThen_ok]
   simp [loadVar,rA ht,h1,hc]
 | @cellN a' t i off size cs e hu hx hi hb hn =>
  have hm:h.den.m (h.π i)=some ⟨⟨cs⟩,e⟩:=by rw [SH.m_loc w (blt_iff.1 hi)];exact hb
  obtain ⟨h1,h2⟩:=hu.eq
  cases ht:P.underlying t with
  | none=>rw [ht] at h1;cases h1
  | some td =>
   cases hti:P.info? t with
   | none=>rw [hti] at h2;cases h2
   | some ti =>
    rw [ht] at h1;rw [hti] at h2
    simp only [Option.map_some,Option.some.injEq] at h1 h2
    have e0:(⟨cs⟩:Array Value).extract off (off+size)=⟨takeV off size cs⟩:=by
     apply Array.ext';simp [takeV_eq]
    have hr:=run_loadN (P:=P) (a:=⟨h.π i,off,none⟩) (n:=size) hok hm rfl (by simpa using hn)
    simp only [resF,ev hx,ren_ptr,asAddr,Sem.run_bind,Sem.run_pure,Result.andThen_ok]
    simp [loadVar,rA ht,h1,rS hti,h2,hr,← e0]
 | @baseN a' t blk off size cs vs e hu hx hb hn hv =>
  subst hv
  have hm:h.den.m blk=some ⟨⟨cs⟩,e⟩:=SH.m_base w hb
  obtain ⟨h1,h2⟩:=hu.eq
  cases ht:P.underlying t with
  | none=>rw [ht] at h1;cases h1
  | some td =>
   cases hti:P.info? t with
   | none=>rw [hti] at h2;cases h2
   | some ti =>
    rw [ht] at h1;rw [hti] at h2
    simp only [Option.map_some,Option.some.injEq] at h1 h2
    have e0:(⟨cs⟩:Array Value).extract off (off+size)=⟨takeV off size cs⟩:=by
     apply Array.ext';simp [takeV_eq]
    have hr:=run_loadN (P:=P) (a:=⟨blk,off,none⟩) (n:=size) hok hm rfl (by simpa using hn)
    simp only [resF,ev hx,ren_ptr,asAddr,Sem.run_bind,Sem.run_pure,Result.andThen_ok]
    simp [loadVar,rA ht,h1,rS hti,h2,hr,← e0]
theorem ResVs.run [Pend] {fl:List (Nat × Value)} {nt:Nat} {h:SH} (w:h.WF) {a:Act} (g:Agr ⟨fl,nt⟩ a) {ρ:Env} {W:World} (hok:HOK P.globals.size h.den ρ W):∀ {rs:List ResultVar} {vs:List Value},ResVs P fl h rs vs→(rs.mapM (resF (renA ρ a).tmps)).run P W=.ok (vs.map (ren ρ)) W:=by
 intro rs vs hr
 induction hr with
 | nil=>simp
 | cons hr hs ih =>
  rw [List.mapM_cons]
  simp only [Sem.run_bind,hr.run w g hok,Result.andThen_ok,ih,Sem.run_pure,List.map_cons]
theorem ResVs.is [Pend] {fn:Func} {fl:List (Nat × Value)} {nt:Nat} {h:SH} (w:h.WF) {vs:List Value} (hr:ResVs P fl h fn.results.toList vs) {a:Act} (g:Agr ⟨fl,nt⟩ a):ResIs P fn a h.den (resultOf vs):=by
 intro ρ W hok
 rw [results_eq,Array.mapM_eq_mapM_toList]
 have h3:(Functor.map (fun l=>List.toArray l) (fn.results.toList.mapM (resF (renA ρ a).tmps))).run P W=.ok (vs.map (ren ρ)).toArray W:=by
  rw [map_eq_pure_bind,Sem.run_bind,hr.run w g hok];rfl
 rw [Sem.run_bind,h3]
 simp only [Result.andThen_ok,Sem.run_pure]
 congr 1
 cases vs with
 | nil=>simp [resultOf]
 | cons u us =>
  cases us with
  | nil=>simp [resultOf]
  | cons u2 us=>simp [resultOf]
def enterL:Nat→List Value→List (Nat × Value)
 | _,[]=>[]
 | i,v::vs=>(i,v)::enterL (i+1) vs
theorem enterL_get:∀ {vs:List Value} {i t:Nat} {v:Value},findV (enterL i vs) t=some v→i≤t∧vs[t - i]?=some v:=by
 intro vs
 induction vs with
 | nil=>intro i t v h;cases h
 | cons u vs ih =>
  intro i t v h
  simp only [enterL,find_cons] at h
  by_cases e:i=t
  ·subst e;simp at h;subst h;simp
  ·rw [if_neg e] at h
   have:=ih h
   refine ⟨by omega,?_⟩
   rw [show t - i=(t - (i+1))+1 by omega]
   simpa using this.2
theorem enter_agr {fn:Func} {args:List Value} (hn:args.length≤fn.ntmps):Agr ⟨enterL 0 args,fn.ntmps⟩ (enterAct fn ⟨args⟩):=by
 refine ⟨by simp [enterAct];omega,rfl,fun t v hv=>?_⟩
 have:=(enterL_get hv).2
 simp only [Nat.sub_zero] at this
 have hlt:=(List.getElem?_eq_some_iff.1 this).1
 simp only [enterAct]
 rw [Array.getElem?_append_left (by simpa using hlt)]
 simpa using this
def endsK (P:Program) (fn:Func) (Q:List Value→SH→Prop):Exit→Fr→SH→Prop
 | .ret,f,h=>∃ vs,ResVs P f.l h fn.results.toList vs∧Q vs h
 | .normal,f,h=>∃ vs,ResVs P f.l h fn.results.toList vs∧Q vs h
 | _,_,_=>False
end Go.AH
namespace Go.AH
variable {P:Program}
def guardSlot (ops:Array Oper) (gd:Option (Nat × Bool)):Option Nat:=match gd with
 | some (j,_)=>match ops.toList[j]? with
  | some q=>q.dst
  | none=>none
 | none=>none
section
variable {ops:Array Oper} {draw:Bool} {rs:List Rk} {l:List Oper} {fl:List (Nat × Value)} {nt:Nat} {h:SH} {K:Fr→SH→Prop} {d:Tmp} {dd:Option Tmp} {op:Op} {ty:TypeId} {pos:String} {af:Array Edge} {gd:Option (Nat × Bool)}
theorem RS.splitG [Pend] {t:Nat} {b:Bool} (ht:guardSlot ops gd=some t) (hg:findV fl t=some (.bool b))
 (h1:b=true→RS P ops draw rs (⟨dd,op,ty,pos,af,gd⟩::l) ⟨(t,.bool true)::fl,nt⟩ h K) (h2:b=false→RS P ops draw rs (⟨dd,op,ty,pos,af,gd⟩::l) ⟨(t,.bool false)::fl,nt⟩ h K):RS P ops draw rs (⟨dd,op,ty,pos,af,gd⟩::l) ⟨fl,nt⟩ h K :=
 RS.split t hg h1 h2
theorem RS.addNat [Pend] {t yt:TypeId} {x y:Operand} {a b:Nat} (hw:wantB ops ⟨some d,.binOp .add t x y yt,ty,pos,af,gd⟩ ⟨fl,nt⟩=some true) (hd:Nat.blt d nt=true)
 (hx:Fr.ev ⟨fl,nt⟩ x=some (.int .i64 (a:Int))) (hy:Fr.ev ⟨fl,nt⟩ y=some (.int .i64 (b:Int))) (h0:a+b≤9223372036854775807)
 (hk:RS P ops draw (recP h.k false [] (some [])::rs) l ⟨(d,.int .i64 ((a+b:Nat):Int))::fl,nt⟩ h K):RS P ops draw rs (⟨some d,.binOp .add t x y yt,ty,pos,af,gd⟩::l) ⟨fl,nt⟩ h K :=
 RS.binFit hw hd hx hy (n:=((a+b:Nat):Int)) (by simp [binF]) (by omega) hk
theorem RS.subNat [Pend] {t yt:TypeId} {x y:Operand} {a b:Nat} (hw:wantB ops ⟨some d,.binOp .sub t x y yt,ty,pos,af,gd⟩ ⟨fl,nt⟩=some true) (hd:Nat.blt d nt=true)
 (hx:Fr.ev ⟨fl,nt⟩ x=some (.int .i64 (a:Int))) (hy:Fr.ev ⟨fl,nt⟩ y=some (.int .i64 (b:Int))) (h0:b≤a∧a≤9223372036854775807)
 (hk:RS P ops draw (recP h.k false [] (some [])::rs) l ⟨(d,.int .i64 ((a - b:Nat):Int))::fl,nt⟩ h K):RS P ops draw rs (⟨some d,.binOp .sub t x y yt,ty,pos,af,gd⟩::l) ⟨fl,nt⟩ h K :=
 RS.binFit hw hd hx hy (n:=((a - b:Nat):Int)) (by simp [binF];omega) (by omega) hk
def natCmp (op:BinOp) (a b:Nat):Option Bool:=match op with
 | .eql=>some (decide (a=b))
 | .neq=>some (!(decide (a=b)))
 | .lss=>some (decide (a < b))
 | .leq=>some (decide (a≤b))
 | .gtr=>some (decide (b < a))
 | .geq=>some (decide (b≤a))
 | _=>none
theorem RS.cmpNat [Pend] {op:BinOp} {t yt:TypeId} {x y:Operand} {k:IntKind} {a b:Nat} {c:Bool} (hw:wantB ops ⟨some d,.binOp op t x y yt,ty,pos,af,gd⟩ ⟨fl,nt⟩=some true) (hd:Nat.blt d nt=true)
 (hx:Fr.ev ⟨fl,nt⟩ x=some (.int k (a:Int))) (hy:Fr.ev ⟨fl,nt⟩ y=some (.int k (b:Int))) (hc:natCmp op a b=some c)
 (hk:RS P ops draw (recP h.k false [] (some [])::rs) l ⟨(d,.bool c)::fl,nt⟩ h K):RS P ops draw rs (⟨some d,.binOp op t x y yt,ty,pos,af,gd⟩::l) ⟨fl,nt⟩ h K:=by
 refine RS.bin hw hd hx hy (v:=.bool c) ?_ hk
 cases op<;>simp only [natCmp,Option.some.injEq,reduceCtorEq] at hc<;>subst hc<;>simp only [binI,Option.some.injEq,Value.bool.injEq]
 all_goals (rw [Bool.eq_iff_iff];simp only [beq_iff_eq,bne_iff_ne,decide_eq_true_eq,Bool.not_eq_true',decide_eq_false_iff_not,ne_eq])
 all_goals omega
end
section
variable {f:Fr} {h:SH} {K:Exit→Fr→SH→Prop} {y:Code} {i id:Nat}
theorem thenK_n [Pend] (hk:W P y f h K):thenK P y K .normal f h:=hk
theorem thenK_e [Pend] (hk:K (.exit i) f h):thenK P y K (.exit i) f h:=hk
theorem thenK_r [Pend] (hk:K .ret f h):thenK P y K .ret f h:=hk
theorem blockK_n (hk:K .normal f h):blockK id K .normal f h:=hk
theorem blockK_r (hk:K .ret f h):blockK id K .ret f h:=hk
theorem blockK_hit (he:Nat.beq i id=true) (hk:K .normal f h):blockK id K (.exit i) f h:=by
 show (bif Nat.beq i id then K .normal f h else K (.exit i) f h);rw [he];exact hk
theorem blockK_miss (he:Nat.beq i id=false) (hk:K (.exit i) f h):blockK id K (.exit i) f h:=by
 show (bif Nat.beq i id then K .normal f h else K (.exit i) f h);rw [he];exact hk
theorem roundK_e {X:Type} {F:(Nat→Nat)→X→List (Nat × Value)} {B:X→Hp} {L:(Nat→Nat)→X→List (Nat × Option Blk)} {I:X→Prop} {μ:X→Nat} {k0 nt:Nat} {x:X} (hk:K (.exit i) f h):roundK F B L I μ k0 nt x K (.exit i) f h:=hk
theorem roundK_r {X:Type} {F:(Nat→Nat)→X→List (Nat × Value)} {B:X→Hp} {L:(Nat→Nat)→X→List (Nat × Option Blk)} {I:X→Prop} {μ:X→Nat} {k0 nt:Nat} {x:X} (hk:K .ret f h):roundK F B L I μ k0 nt x K .ret f h:=hk
theorem roundK_n {X:Type} {F:(Nat→Nat)→X→List (Nat × Value)} {B:X→Hp} {L:(Nat→Nat)→X→List (Nat × Option Blk)} {I:X→Prop} {μ:X→Nat} {k0 nt:Nat} {x:X} (x':X) (m:List Nat) (hl:m.length=k0) (hn:f.nt=nt) (hI:I x') (hμ:μ x' < μ x) (hf:FitL f h m (F · x') (B x') (L · x')):roundK F B L I μ k0 nt x K .normal f h :=
 ⟨x',m,hl,hn,hf,hI,hμ⟩
end
theorem W.reg [Pend] {id:Nat} {l:List Oper} {draw:Bool} {f:Fr} {h:SH} {K:Exit→Fr→SH→Prop} (hk:okOpsB P.globals.size ⟨l⟩=true) (hr:RS P ⟨l⟩ draw [] l f h (K .normal)):W P (.region id ⟨l⟩ draw) f h K:=W.region hk hr
theorem TF.still {g:FuncId} {fn:Func} {c:Code} {args:List Value} {v:Value} {nt:Nat} {h:Hp} (hf:P.funcs[g]?=some fn) (hb:fn.body=some c) (ht:fn.ntmps=nt) (hn:Nat.ble args.length nt=true) (hv:bnd 0 v)
 (hw:W P c ⟨enterL 0 args,nt⟩ (SH.of h) (endsK P fn fun vs h'=>h'.base=h∧resultOf vs=v)):TF P g ⟨args⟩ h v h:=by
 subst ht
 intro ha ρ W hok
 have hd:∀ i b,h.m i=some b→i < h.n:=hok.lt
 have hden:=SH.of_den hd
 obtain ⟨e,f',h',a',k1,w1,s1,b1,g1,t1⟩:=hw (enterAct fn ⟨args⟩) (SH.of_wf hok.gle hd) (by rw [hden];exact ⟨ρ,W,hok⟩) (by rw [hden];exact enterAct_bnd ha) (enter_agr (ble_iff.1 hn))
 rw [hden] at t1
 have fin:∀ vs,(e=.ret∨e=.normal)→ResVs P f'.l h' fn.results.toList vs→h'.base=h→resultOf vs=v→TF P g ⟨args⟩ h v h:=by
  intro vs he hr hbase hres
  have htf:TF P g ⟨args⟩ h v h'.den:=by
   refine TF.intro hf hb he t1 g1.defers (fun _ _=>bnd_mono (Nat.zero_le _) v hv) ?_
   rw [← hres];exact hr.is w1 g1
  refine htf.trunc (bnd_mono (Nat.zero_le _) v hv) fun i hi=>?_
  simp only [SH.den,hbase];rw [if_pos hi]
 cases e with
 | ret=>obtain ⟨vs,h1,h2,h3⟩:=k1;exact fin vs (.inl rfl) h1 h2 h3 ha ρ W hok
 | normal=>obtain ⟨vs,h1,h2,h3⟩:=k1;exact fin vs (.inr rfl) h1 h2 h3 ha ρ W hok
 | _=>exact k1.elim
theorem endsK_ret {fn:Func} {Q:List Value→SH→Prop} {f:Fr} {h:SH} (vs:List Value) (hr:ResVs P f.l h fn.results.toList vs) (hq:Q vs h):endsK P fn Q .ret f h:=⟨vs,hr,hq⟩
theorem endsK_normal {fn:Func} {Q:List Value→SH→Prop} {f:Fr} {h:SH} (vs:List Value) (hr:ResVs P f.l h fn.results.toList vs) (hq:Q vs h):endsK P fn Q .normal f h:=⟨vs,hr,hq⟩
section
variable {ops:Array Oper} {draw:Bool} {rs:List Rk} {l:List Oper} {fl:List (Nat × Value)} {nt:Nat} {h:SH} {K:Fr→SH→Prop} {d:Tmp} {ty:TypeId} {pos:String} {af:Array Edge} {gd:Option (Nat × Bool)}
theorem RS.callB [Pend] {g0:FuncId} {xs:Array Operand} {ts:Array TypeId} {vs:List Value} {v:Value} {nv:Option (List Nat)} [hg:GF P g0] (hw:wantB ops ⟨some d,.call { callee:=.value (.func g0),args:=xs,argTypes:=ts },ty,pos,af,gd⟩ ⟨fl,nt⟩=some true) (hd:Nat.blt d nt=true)
 (hx:evAll fl nt xs.toList=some vs) (ht:∀ H:Hp,(∀ id,id < h.base.n→H.m id=h.base.m id)→TF P g0 ⟨vs⟩ H v H) (hnv:NmO h.base.n h.π nv v)
 (hk:RS P ops draw (recP h.k true [] nv::rs) l ⟨(d,v)::fl,nt⟩ h K):RS P ops draw rs (⟨some d,.call { callee:=.value (.func g0),args:=xs,argTypes:=ts },ty,pos,af,gd⟩::l) ⟨fl,nt⟩ h K :=
 RS.step hw hd (One.reads (fun _ g H hs=>tx_call g hx (ht H (hs.b rfl))) hnv) hk
end
theorem TF.of_same {g:FuncId} {args:Array Value} {v:Value} {h:Hp} (ha:∀ x∈args,bnd 0 x) (hv:bnd 0 v) (hc:∀ ρ W,HOK P.globals.size h ρ W→Calls P g args W fun e W'=>e=.returned v∧W'=W):TF P g args h v h:=by
 intro _ ρ W hok
 have e:args.map (ren ρ)=args:=by
  conv=>rhs;rw [← Array.map_id args]
  exact Array.map_congr_left fun x hx=>ren_free ρ x (ha x hx)
 rw [e]
 refine (hc ρ W hok).mono ?_
 rintro e W' ⟨rfl,rfl⟩
 exact ⟨ρ,by rw [ren_free ρ v hv],bnd_mono (Nat.zero_le _) v hv,hok,Ext.refl _ _ _⟩
end Go.AH
namespace Go.AH
variable {P:Program}
def cmpP (op:BinOp) (a b:Int):Prop:=match op with
 | .eql=>a=b
 | .neq=>a≠b
 | .lss=>a < b
 | .leq=>a≤b
 | .gtr=>b < a
 | .geq=>b≤a
 | _=>False
def cmpN (op:BinOp) (a b:Int):Prop:=match op with
 | .eql=>a≠b
 | .neq=>a=b
 | .lss=>b≤a
 | .leq=>b < a
 | .gtr=>a≤b
 | .geq=>a < b
 | _=>False
section
variable {ops:Array Oper} {draw:Bool} {rs:List Rk} {l:List Oper} {fl:List (Nat × Value)} {nt:Nat} {h:SH} {K:Fr→SH→Prop} {d:Tmp} {ty:TypeId} {pos:String} {af:Array Edge} {gd:Option (Nat × Bool)}
theorem RS.cmpT [Pend] {op:BinOp} {t yt:TypeId} {x y:Operand} {k:IntKind} {a b:Int} (hw:wantB ops ⟨some d,.binOp op t x y yt,ty,pos,af,gd⟩ ⟨fl,nt⟩=some true) (hd:Nat.blt d nt=true)
 (hx:Fr.ev ⟨fl,nt⟩ x=some (.int k a)) (hy:Fr.ev ⟨fl,nt⟩ y=some (.int k b)) (hc:cmpP op a b)
 (hk:RS P ops draw (recP h.k false [] (some [])::rs) l ⟨(d,.bool true)::fl,nt⟩ h K):RS P ops draw rs (⟨some d,.binOp op t x y yt,ty,pos,af,gd⟩::l) ⟨fl,nt⟩ h K:=by
 refine RS.bin hw hd hx hy (v:=.bool true) ?_ hk
 cases op<;>simp only [cmpP] at hc<;>simp [binI,hc]
theorem RS.cmpF [Pend] {op:BinOp} {t yt:TypeId} {x y:Operand} {k:IntKind} {a b:Int} (hw:wantB ops ⟨some d,.binOp op t x y yt,ty,pos,af,gd⟩ ⟨fl,nt⟩=some true) (hd:Nat.blt d nt=true)
 (hx:Fr.ev ⟨fl,nt⟩ x=some (.int k a)) (hy:Fr.ev ⟨fl,nt⟩ y=some (.int k b)) (hc:cmpN op a b)
 (hk:RS P ops draw (recP h.k false [] (some [])::rs) l ⟨(d,.bool false)::fl,nt⟩ h K):RS P ops draw rs (⟨some d,.binOp op t x y yt,ty,pos,af,gd⟩::l) ⟨fl,nt⟩ h K:=by
 refine RS.bin hw hd hx hy (v:=.bool false) ?_ hk
 cases op<;>simp only [cmpN] at hc<;>simp [binI,hc]<;>omega
theorem wrapU64 {n:Int} (h0:0≤n) (h1:n≤18446744073709551615):IntKind.u64.wrap n=n:=by simp only [IntKind.wrap,IntKind.signed,IntKind.bits];simp;omega
theorem RS.addU [Pend] {t yt:TypeId} {x y:Operand} {a b:Nat} (hw:wantB ops ⟨some d,.binOp .add t x y yt,ty,pos,af,gd⟩ ⟨fl,nt⟩=some true) (hd:Nat.blt d nt=true)
 (hx:Fr.ev ⟨fl,nt⟩ x=some (.int .u64 (a:Int))) (hy:Fr.ev ⟨fl,nt⟩ y=some (.int .u64 (b:Int))) (h0:a+b≤18446744073709551615)
 (hk:RS P ops draw (recP h.k false [] (some [])::rs) l ⟨(d,.int .u64 ((a+b:Nat):Int))::fl,nt⟩ h K):RS P ops draw rs (⟨some d,.binOp .add t x y yt,ty,pos,af,gd⟩::l) ⟨fl,nt⟩ h K :=
 RS.bin hw hd hx hy (by simp only [binI];rw [wrapU64 (by omega) (by omega)];simp) hk
theorem RS.mulU [Pend] {t yt:TypeId} {x y:Operand} {a b:Nat} (hw:wantB ops ⟨some d,.binOp .mul t x y yt,ty,pos,af,gd⟩ ⟨fl,nt⟩=some true) (hd:Nat.blt d nt=true)
 (hx:Fr.ev ⟨fl,nt⟩ x=some (.int .u64 (a:Int))) (hy:Fr.ev ⟨fl,nt⟩ y=some (.int .u64 (b:Int))) (h0:a * b≤18446744073709551615)
 (hk:RS P ops draw (recP h.k false [] (some [])::rs) l ⟨(d,.int .u64 ((a * b:Nat):Int))::fl,nt⟩ h K):RS P ops draw rs (⟨some d,.binOp .mul t x y yt,ty,pos,af,gd⟩::l) ⟨fl,nt⟩ h K:=by
 refine RS.bin hw hd hx hy ?_ hk
 simp only [binI]
 rw [← Int.natCast_mul,wrapU64 (by omega) (by omega)]
theorem RS.subU [Pend] {t yt:TypeId} {x y:Operand} {a b:Nat} (hw:wantB ops ⟨some d,.binOp .sub t x y yt,ty,pos,af,gd⟩ ⟨fl,nt⟩=some true) (hd:Nat.blt d nt=true)
 (hx:Fr.ev ⟨fl,nt⟩ x=some (.int .u64 (a:Int))) (hy:Fr.ev ⟨fl,nt⟩ y=some (.int .u64 (b:Int))) (h0:b≤a∧a≤18446744073709551615)
 (hk:RS P ops draw (recP h.k false [] (some [])::rs) l ⟨(d,.int .u64 ((a - b:Nat):Int))::fl,nt⟩ h K):RS P ops draw rs (⟨some d,.binOp .sub t x y yt,ty,pos,af,gd⟩::l) ⟨fl,nt⟩ h K :=
 RS.bin hw hd hx hy (by simp only [binI];rw [wrapU64 (by omega) (by omega),show ((a:Int) - b)=((a - b:Nat):Int) by omega]) hk
theorem RS.quoU [Pend] {t yt:TypeId} {x y:Operand} {a b:Nat} (hw:wantB ops ⟨some d,.binOp .quo t x y yt,ty,pos,af,gd⟩ ⟨fl,nt⟩=some true) (hd:Nat.blt d nt=true)
 (hx:Fr.ev ⟨fl,nt⟩ x=some (.int .u64 (a:Int))) (hy:Fr.ev ⟨fl,nt⟩ y=some (.int .u64 (b:Int))) (h0:0 < b∧a≤18446744073709551615)
 (hk:RS P ops draw (recP h.k false [] (some [])::rs) l ⟨(d,.int .u64 ((a / b:Nat):Int))::fl,nt⟩ h K):RS P ops draw rs (⟨some d,.binOp .quo t x y yt,ty,pos,af,gd⟩::l) ⟨fl,nt⟩ h K:=by
 refine RS.quo hw hd hx hy (by omega) ?_
 have e:IntKind.u64.wrap ((a:Int).tdiv (b:Int))=((a / b:Nat):Int):=by
  have h1:(a:Int).tdiv (b:Int)=((a / b:Nat):Int):=by rw [Int.tdiv_eq_ediv_of_nonneg (by omega)];simp
  have h2:a / b≤a:=Nat.div_le_self _ _
  rw [h1]
  generalize a / b=q at h2
  rw [wrapU64 (by omega) (by omega)]
 rw [e];exact hk
theorem RS.splitD [Pend] {op:Op} {dd:Option Tmp} {t:Nat} {p:Prop} {hp:Decidable p} (ht:guardSlot ops gd=some t) (hg:findV fl t=some (.bool (decide p)))
 (h1:p→RS P ops draw rs (⟨dd,op,ty,pos,af,gd⟩::l) ⟨(t,.bool true)::fl,nt⟩ h K) (h2:¬ p→RS P ops draw rs (⟨dd,op,ty,pos,af,gd⟩::l) ⟨(t,.bool false)::fl,nt⟩ h K):RS P ops draw rs (⟨dd,op,ty,pos,af,gd⟩::l) ⟨fl,nt⟩ h K :=
 RS.splitG ht hg (fun h=>h1 (of_decide_eq_true h)) (fun h=>h2 (of_decide_eq_false h))
theorem W.condD [Pend] {t:Tmp} {p:Prop} {hp:Decidable p} {x y:Code} {h:SH} {K:Exit→Fr→SH→Prop} (hc:findV fl t=some (.bool (decide p))) (hx:p→W P x ⟨(t,.bool true)::fl,nt⟩ h K) (hy:¬ p→W P y ⟨(t,.bool false)::fl,nt⟩ h K):W P (.cond (.tmp t) x y) ⟨fl,nt⟩ h K :=
 W.cond hc (fun h=>hx (of_decide_eq_true h)) (fun h=>hy (of_decide_eq_false h))
end
end Go.AH
namespace Go.AH
variable {P:Program}
theorem W.fit [Pend] {y:Code} {f:Fr} {h:SH} {K:Exit→Fr→SH→Prop} {F:(Nat→Nat)→List (Nat × Value)} {B:Hp} {L:(Nat→Nat)→List (Nat × Option Blk)} {m:List Nat} {k0 nt:Nat} (hl:m.length=k0) (hn:f.nt=nt) (ft:FitL f h m F B L)
 (hy:∀ π,W P y ⟨F π,nt⟩ ⟨B,π,k0,L π⟩ K):W P y f h K:=by
 subst hl;subst hn
 intro a w s b g
 obtain ⟨w2,hsub,hend⟩:=ft.ok w
 have hn2:({ base:=B,π:=rePi h.π h.k m,k:=m.length,l:=L (rePi h.π h.k m) }:SH).den.n=h.den.n:=hend
 have s2:Sat P ({ base:=B,π:=rePi h.π h.k m,k:=m.length,l:=L (rePi h.π h.k m) }:SH).den:=by
  obtain ⟨ρ,W,ho⟩:=s
  exact ⟨ρ,W,ho.sub hn2 hsub⟩
 obtain ⟨e,f3,h3,a3,k3,w3,s3,b3,g3,t3⟩:=hy (rePi h.π h.k m) a w2 s2 (by rw [hn2];exact b) (g.weak rfl fun t v hv=>ft.fr.get t v hv)
 exact ⟨e,f3,h3,a3,k3,w3,s3,b3,g3,t3.sub hn2 hsub⟩
def joinK {X:Type} (F:(Nat→Nat)→X→List (Nat × Value)) (B:X→Hp) (L:(Nat→Nat)→X→List (Nat × Option Blk)) (I:X→Prop) (k0 nt:Nat) (K:Exit→Fr→SH→Prop):Exit→Fr→SH→Prop
 | .normal,f,h=>∃ (x:X) (m:List Nat),m.length=k0∧f.nt=nt∧FitL f h m (F · x) (B x) (L · x)∧I x
 | e,f,h=>K e f h
section
variable {X:Type} {F:(Nat→Nat)→X→List (Nat × Value)} {B:X→Hp} {L:(Nat→Nat)→X→List (Nat × Option Blk)} {I:X→Prop} {k0 nt:Nat} {K:Exit→Fr→SH→Prop} {f:Fr} {h:SH} {y:Code}
theorem joinK_imp [Pend] (hy:∀ π x,I x→W P y ⟨F π x,nt⟩ ⟨B x,π,k0,L π x⟩ K):∀ e f h,joinK F B L I k0 nt K e f h→thenK P y K e f h:=by
 intro e f h hj
 cases e with
 | normal =>
  obtain ⟨x,m,hl,hn,ft,hI⟩:=hj
  exact W.fit hl hn ft fun π=>hy π x hI
 | _=>exact hj
theorem joinK_n (x:X) (m:List Nat) (hl:m.length=k0) (hn:f.nt=nt) (hI:I x) (hf:FitL f h m (F · x) (B x) (L · x)):joinK F B L I k0 nt K .normal f h:=⟨x,m,hl,hn,hf,hI⟩
theorem joinK_r (hk:K .ret f h):joinK F B L I k0 nt K .ret f h:=hk
end
theorem W.joinT [Pend] {X:Type} {c y:Code} {f:Fr} {h:SH} {K:Exit→Fr→SH→Prop} (F:(Nat→Nat)→X→List (Nat × Value)) (B:X→Hp) (L:(Nat→Nat)→X→List (Nat × Option Blk)) (I:X→Prop) (k0:Nat)
 (hx:W P c f h (joinK F B L I k0 f.nt K)) (hy:∀ π x,I x→W P y ⟨F π x,f.nt⟩ ⟨B x,π,k0,L π x⟩ K):W P c f h (thenK P y K):=W.mono hx (joinK_imp hy)
theorem blockK_mono {id:Nat} {K K':Exit→Fr→SH→Prop} (hk:∀ e f h,K e f h→K' e f h):∀ e f h,blockK id K e f h→blockK id K' e f h:=by
 intro e f h hb
 cases e with
 | exit i =>
  have hb:(bif Nat.beq i id then K .normal f h else K (.exit i) f h):=hb
  show (bif Nat.beq i id then K' .normal f h else K' (.exit i) f h)
  cases hq:Nat.beq i id with
  | true=>rw [hq] at hb;exact hk _ _ _ hb
  | false=>rw [hq] at hb;exact hk _ _ _ hb
 | _=>exact hk _ _ _ hb
theorem W.joinB [Pend] {X:Type} {c y:Code} {id:Nat} {f:Fr} {h:SH} {K:Exit→Fr→SH→Prop} (F:(Nat→Nat)→X→List (Nat × Value)) (B:X→Hp) (L:(Nat→Nat)→X→List (Nat × Option Blk)) (I:X→Prop) (k0:Nat)
 (hx:W P c f h (blockK id (joinK F B L I k0 f.nt K))) (hy:∀ π x,I x→W P y ⟨F π x,f.nt⟩ ⟨B x,π,k0,L π x⟩ K):W P c f h (blockK id (thenK P y K)):=W.mono hx (blockK_mono (joinK_imp hy))
theorem W.ghost [Pend] {c:Code} {f:Fr} {B:Hp} {π:Nat→Nat} {k:Nat} {l:List (Nat × Option Blk)} {K:Exit→Fr→SH→Prop} (hw:W P c f ⟨B,π,k+1,(k,none)::l⟩ K):W P c f ⟨B,π,k,l⟩ K:=by
 intro a w s b g
 have w2:(⟨B,π,k+1,(k,none)::l⟩:SH).WF:=w.push (h:=⟨B,π,k,l⟩) _
 have hu:π (k+1)=π k+1:=w.up k (Nat.le_refl _)
 have hm:∀ id,(⟨B,π,k+1,(k,none)::l⟩:SH).den.m id=(⟨B,π,k,l⟩:SH).den.m id:=by
  intro id
  simp only [SH.den]
  split
  ·rfl
  ·rename_i hlt
   rw [idx]
   by_cases e:π k=id
   ·rw [if_pos e,idx_none (fun i hi he=>by have:=w.hi i hi;simp only at this;omega)]
    simp [look_cons]
   ·rw [if_neg e]
    cases hx:idx π k id with
    | none=>rfl
    | some i =>
     have:=(idx_some hx).1
     simp only [Option.bind_some,look_cons]
     rw [if_neg (by omega)]
 have hN:(⟨B,π,k,l⟩:SH).den.n≤(⟨B,π,k+1,(k,none)::l⟩:SH).den.n:=by simp only [SH.den,hu];omega
 have up:∀ ρ W,HOK P.globals.size (⟨B,π,k,l⟩:SH).den ρ W→HOK P.globals.size (⟨B,π,k+1,(k,none)::l⟩:SH).den ρ W:=fun ρ W ho =>
  ⟨fun i b hb=>ho.fits i b (by rw [← hm];exact hb),fun i b hb=>Nat.lt_of_lt_of_le (ho.lt i b (by rw [← hm];exact hb)) hN,fun i j b c hi0 hb hc=>ho.inj i j b c hi0 (by rw [← hm];exact hb) (by rw [← hm];exact hc),fun i b hb v hv=>bnd_mono hN v (ho.bd i b (by rw [← hm];exact hb) v hv),ho.glob,Nat.le_trans ho.gle hN,ho.gow⟩
 obtain ⟨ρ0,W0,ho0⟩:=s
 obtain ⟨e,f3,h3,a3,k3,w3,s3,b3,g3,t3⟩:=hw a w2 ⟨ρ0,W0,up _ _ ho0⟩ (bndA_mono hN b) g
 refine ⟨e,f3,h3,a3,k3,w3,s3,b3,g3,fun hb ρ W ho=>?_⟩
 refine wp_mono (t3 (bndA_mono hN hb) ρ W (up ρ W ho)) ?_
 rintro e' A W' ⟨rfl,ρ',rfl,hb',ho',hE⟩
 exact ⟨rfl,ρ',rfl,hb',ho',⟨fun i hi=>hE.agree i (Nat.lt_of_lt_of_le hi hN),Nat.le_trans hN hE.mono,fun c hc hk=>hE.kept c hc fun i b hi0 hb=>hk i b hi0 (by rw [← hm];exact hb),hE.size,fun i b hi0 hb hl=>by
  obtain ⟨j,c,hj0,hj,e⟩:=hE.own i b hi0 hb hl
  exact ⟨j,c,hj0,by rw [← hm];exact hj,e⟩,hE.tape,hE.os,hE.output,fun i b hin hb=>by
  obtain ⟨c,hc,h1,h2⟩:=hE.surv i b (Nat.lt_of_lt_of_le hin hN) hb
  exact ⟨c,by rw [← hm];exact hc,h1,h2⟩⟩⟩
def isCmp (op:BinOp):Bool:=match op with
 | .lss=>true
 | .leq=>true
 | .gtr=>true
 | .geq=>true
 | .eql=>true
 | .neq=>true
 | _=>false
section
variable {ops:Array Oper} {draw:Bool} {rs:List Rk} {l:List Oper} {fl:List (Nat × Value)} {nt:Nat} {h:SH} {B:Hp} {π:Nat→Nat} {k:Nat} {hl:List (Nat × Option Blk)} {K:Fr→SH→Prop} {d:Tmp} {ty:TypeId} {pos:String} {af:Array Edge} {gd:Option (Nat × Bool)}
theorem RS.callR [Pend] {g0:FuncId} {xs:Array Operand} {ts:Array TypeId} {vs:List Value} {v:Value} (vb:Bool) (vl:List Nat) (nv:Option (List Nat)) [hg:GF P g0] (hw:wantB ops ⟨some d,.call { callee:=.value (.func g0),args:=xs,argTypes:=ts },ty,pos,af,gd⟩ ⟨fl,nt⟩=some true) (hd:Nat.blt d nt=true)
 (hx:evAll fl nt xs.toList=some vs) (ht:∀ H:Hp,Sees h vb vl H→TF P g0 ⟨vs⟩ H v H) (hnv:NmO h.base.n h.π nv v)
 (hk:RS P ops draw (recP h.k vb vl nv::rs) l ⟨(d,v)::fl,nt⟩ h K):RS P ops draw rs (⟨some d,.call { callee:=.value (.func g0),args:=xs,argTypes:=ts },ty,pos,af,gd⟩::l) ⟨fl,nt⟩ h K :=
 RS.step hw hd (One.reads (fun _ g H hs=>tx_call g hx (ht H hs)) hnv) hk
theorem RS.callN [Pend] {g0:FuncId} {xs:Array Operand} {ts:Array TypeId} {vs:List Value} {v:Value} {b:Blk} (vb:Bool) (vl:List Nat) [hg:GF P g0] (hw:wantB ops ⟨some d,.call { callee:=.value (.func g0),args:=xs,argTypes:=ts },ty,pos,af,gd⟩ ⟨fl,nt⟩=some true) (hd:Nat.blt d nt=true)
 (hx:evAll fl nt xs.toList=some vs) (ht:∀ H:Hp,Sees h vb vl H→TF P g0 ⟨vs⟩ H v (H.push b))
 (hk:RS P ops draw (recN h.k vb vl none none::rs) l ⟨(d,v)::fl,nt⟩ { h with k:=h.k+1,l:=(h.k,some b)::h.l } K):RS P ops draw rs (⟨some d,.call { callee:=.value (.func g0),args:=xs,argTypes:=ts },ty,pos,af,gd⟩::l) ⟨fl,nt⟩ h K :=
 RS.step hw hd (One.new (nv:=none) (cn:=none) (fun _ g H hs=>tx_call g hx (ht H hs)) trivial (fun _ _=>trivial)) hk
theorem RS.indexAddr [Pend] {t e:TypeId} {sz:Nat} {x y:Operand} {a:Addr} {len cap:Nat} {k':IntKind} {i:Int} {n:Nat} [hu:TyU P t (.slice e)] [hz:TySz P e sz] (hw:wantB ops ⟨some d,.indexAddr t x y,ty,pos,af,gd⟩ ⟨fl,nt⟩=some true) (hd:Nat.blt d nt=true) (hx:Fr.ev ⟨fl,nt⟩ x=some (.slice (some a) len cap))
 (hy:Fr.ev ⟨fl,nt⟩ y=some (.int k' i)) (hi:i=(n:Int)) (hn:n < len)
 (hk:RS P ops draw (recP h.k false [] none::rs) l ⟨(d,.pointer (some (a.add (n * sz))))::fl,nt⟩ h K):RS P ops draw rs (⟨some d,.indexAddr t x y,ty,pos,af,gd⟩::l) ⟨fl,nt⟩ h K:=by
 have h2:=hz.eq
 cases hti:P.info? e with
 | none=>rw [hti] at h2;cases h2
 | some ti =>
  rw [hti] at h2
  simp only [Option.map_some,Option.some.injEq] at h2
  subst hi
  refine RS.still (nv:=none) hw hd (fun c g H=>?_) trivial hk
  have:=TX.indexAddr (P:=P) (o:=⟨some d,.indexAddr t x y,ty,pos,af,gd⟩) (ev:=c.eval) (h:=H) rfl hu.eq hti (g.ev hx) (g.ev hy) (by omega) (by omega)
  rw [h2] at this
  simpa using this
theorem RS.subUM [Pend] {t yt:TypeId} {x y:Operand} {b:Nat} (hw:wantB ops ⟨some d,.binOp .sub t x y yt,ty,pos,af,gd⟩ ⟨fl,nt⟩=some true) (hd:Nat.blt d nt=true)
 (hx:Fr.ev ⟨fl,nt⟩ x=some (.int .u64 18446744073709551615)) (hy:Fr.ev ⟨fl,nt⟩ y=some (.int .u64 (b:Int))) (h0:b≤18446744073709551615)
 (hk:RS P ops draw (recP h.k false [] (some [])::rs) l ⟨(d,.int .u64 ((18446744073709551615 - b:Nat):Int))::fl,nt⟩ h K):RS P ops draw rs (⟨some d,.binOp .sub t x y yt,ty,pos,af,gd⟩::l) ⟨fl,nt⟩ h K :=
 RS.subU (a:=18446744073709551615) hw hd hx hy ⟨h0,Nat.le_refl _⟩ hk
theorem RS.cmpC [Pend] {op:BinOp} {t yt:TypeId} {x:Operand} {k:IntKind} {a b:Int} {v:Value} (hw:wantB ops ⟨some d,.binOp op t x (.const (.int k b)) yt,ty,pos,af,gd⟩ ⟨fl,nt⟩=some true) (hd:Nat.blt d nt=true)
 (hc:isCmp op=true) (hx:Fr.ev ⟨fl,nt⟩ x=some (.int k a)) (hv:binI op k a b=some v)
 (hk:RS P ops draw (recP h.k false [] (some [])::rs) l ⟨(d,v)::fl,nt⟩ h K):RS P ops draw rs (⟨some d,.binOp op t x (.const (.int k b)) yt,ty,pos,af,gd⟩::l) ⟨fl,nt⟩ h K:=RS.bin hw hd hx rfl hv hk
theorem RS.add3 [Pend] {t yt:TypeId} {x y:Operand} {a:Nat} (hw:wantB ops ⟨some d,.binOp .add t x y yt,ty,pos,af,gd⟩ ⟨fl,nt⟩=some true) (hd:Nat.blt d nt=true)
 (hx:Fr.ev ⟨fl,nt⟩ x=some (.int .i64 (a:Int))) (hy:Fr.ev ⟨fl,nt⟩ y=some (.int .i64 3)) (h0:a+3≤9223372036854775807)
 (hk:RS P ops draw (recP h.k false [] (some [])::rs) l ⟨(d,.int .i64 ((a+3:Nat):Int))::fl,nt⟩ h K):RS P ops draw rs (⟨some d,.binOp .add t x y yt,ty,pos,af,gd⟩::l) ⟨fl,nt⟩ h K :=
 RS.addNat (b:=3) hw hd hx hy h0 hk
theorem RS.add1 [Pend] {t yt:TypeId} {x y:Operand} {a:Nat} (hw:wantB ops ⟨some d,.binOp .add t x y yt,ty,pos,af,gd⟩ ⟨fl,nt⟩=some true) (hd:Nat.blt d nt=true)
 (hx:Fr.ev ⟨fl,nt⟩ x=some (.int .i64 (a:Int))) (hy:Fr.ev ⟨fl,nt⟩ y=some (.int .i64 1)) (h0:a+1≤9223372036854775807)
 (hk:RS P ops draw (recP h.k false [] (some [])::rs) l ⟨(d,.int .i64 ((a+1:Nat):Int))::fl,nt⟩ h K):RS P ops draw rs (⟨some d,.binOp .add t x y yt,ty,pos,af,gd⟩::l) ⟨fl,nt⟩ h K :=
 RS.addNat (b:=1) hw hd hx hy h0 hk
theorem RS.add2 [Pend] {t yt:TypeId} {x y:Operand} {a:Nat} (hw:wantB ops ⟨some d,.binOp .add t x y yt,ty,pos,af,gd⟩ ⟨fl,nt⟩=some true) (hd:Nat.blt d nt=true)
 (hx:Fr.ev ⟨fl,nt⟩ x=some (.int .i64 (a:Int))) (hy:Fr.ev ⟨fl,nt⟩ y=some (.int .i64 2)) (h0:a+2≤9223372036854775807)
 (hk:RS P ops draw (recP h.k false [] (some [])::rs) l ⟨(d,.int .i64 ((a+2:Nat):Int))::fl,nt⟩ h K):RS P ops draw rs (⟨some d,.binOp .add t x y yt,ty,pos,af,gd⟩::l) ⟨fl,nt⟩ h K :=
 RS.addNat (b:=2) hw hd hx hy h0 hk
theorem RS.add4 [Pend] {t yt:TypeId} {x y:Operand} {a:Nat} (hw:wantB ops ⟨some d,.binOp .add t x y yt,ty,pos,af,gd⟩ ⟨fl,nt⟩=some true) (hd:Nat.blt d nt=true)
 (hx:Fr.ev ⟨fl,nt⟩ x=some (.int .i64 (a:Int))) (hy:Fr.ev ⟨fl,nt⟩ y=some (.int .i64 4)) (h0:a+4≤9223372036854775807)
 (hk:RS P ops draw (recP h.k false [] (some [])::rs) l ⟨(d,.int .i64 ((a+4:Nat):Int))::fl,nt⟩ h K):RS P ops draw rs (⟨some d,.binOp .add t x y yt,ty,pos,af,gd⟩::l) ⟨fl,nt⟩ h K :=
 RS.addNat (b:=4) hw hd hx hy h0 hk
theorem RS.sub1 [Pend] {t yt:TypeId} {x y:Operand} {a:Nat} (hw:wantB ops ⟨some d,.binOp .sub t x y yt,ty,pos,af,gd⟩ ⟨fl,nt⟩=some true) (hd:Nat.blt d nt=true)
 (hx:Fr.ev ⟨fl,nt⟩ x=some (.int .i64 (a:Int))) (hy:Fr.ev ⟨fl,nt⟩ y=some (.int .i64 1)) (h0:1≤a∧a≤9223372036854775807)
 (hk:RS P ops draw (recP h.k false [] (some [])::rs) l ⟨(d,.int .i64 ((a - 1:Nat):Int))::fl,nt⟩ h K):RS P ops draw rs (⟨some d,.binOp .sub t x y yt,ty,pos,af,gd⟩::l) ⟨fl,nt⟩ h K :=
 RS.subNat (b:=1) hw hd hx hy h0 hk
theorem RS.loadNB [Pend] {t:TypeId} {x:Operand} {blk off size:Nat} {cs vs:List Value} {e:TypeId} [hu:TyAgg P t size] (hw:wantB ops ⟨some d,.load t x,ty,pos,af,gd⟩ ⟨fl,nt⟩=some true) (hd:Nat.blt d nt=true) (hx:Fr.ev ⟨fl,nt⟩ x=some (.pointer (some ⟨blk,off,none⟩)))
 (hb:B.m blk=some ⟨⟨cs⟩,e⟩) (hlt:blk < B.n) (hn:off+size≤cs.length) (hv:takeV off size cs=vs)
 (hk:RS P ops draw (recP k true [] none::rs) l ⟨(d,.agg ⟨vs⟩)::fl,nt⟩ ⟨B,π,k,hl⟩ K):RS P ops draw rs (⟨some d,.load t x,ty,pos,af,gd⟩::l) ⟨fl,nt⟩ ⟨B,π,k,hl⟩ K:=by
 subst hv
 obtain ⟨h1,h2⟩:=hu.eq
 cases ht:P.underlying t with
 | none=>rw [ht] at h1;cases h1
 | some td =>
  cases hti:P.info? t with
  | none=>rw [hti] at h2;cases h2
  | some ti =>
   rw [ht] at h1;rw [hti] at h2
   simp only [Option.map_some,Option.some.injEq] at h1 h2
   refine RS.step hw hd (One.reads (h:=⟨B,π,k,hl⟩) (vl:=[]) (nv:=none) (fun a g H hs=>?_) trivial) hk
   have:=TX.loadN (P:=P) (o:=⟨some d,.load t x,ty,pos,af,gd⟩) (ev:=a.eval) (h:=H) rfl ht h1 hti (g.ev hx) rfl (by rw [hs.b rfl blk hlt];exact hb) (by rw [h2];simpa using hn)
   rw [h2] at this
   rw [takeV_eq]
   simpa using this
theorem RS.load1At [Pend] {t:TypeId} {x:Operand} {i off:Nat} {cs:List Value} {e:TypeId} {v:Value} [hu:TyOne P t] (hw:wantB ops ⟨some d,.load t x,ty,pos,af,gd⟩ ⟨fl,nt⟩=some true) (hd:Nat.blt d nt=true) (hx:Fr.ev ⟨fl,nt⟩ x=some (.pointer (some ⟨π i,off,none⟩)))
 (hi:Nat.blt i k=true) (hb:lookB hl i=some ⟨⟨cs⟩,e⟩) (hv:cs[off]?=some v)
 (hk:RS P ops draw (recP k false [i] none::rs) l ⟨(d,v)::fl,nt⟩ ⟨B,π,k,hl⟩ K):RS P ops draw rs (⟨some d,.load t x,ty,pos,af,gd⟩::l) ⟨fl,nt⟩ ⟨B,π,k,hl⟩ K :=
 RS.load1 hw hd hx hi hb (by rw [nthV_eq];exact hv) hk
theorem RS.load1B [Pend] {t:TypeId} {x:Operand} {blk off:Nat} {cs:List Value} {e:TypeId} {v:Value} [hu:TyOne P t] (hw:wantB ops ⟨some d,.load t x,ty,pos,af,gd⟩ ⟨fl,nt⟩=some true) (hd:Nat.blt d nt=true) (hx:Fr.ev ⟨fl,nt⟩ x=some (.pointer (some ⟨blk,off,none⟩)))
 (hb:B.m blk=some ⟨⟨cs⟩,e⟩) (hlt:blk < B.n) (hv:cs[off]?=some v)
 (hk:RS P ops draw (recP k true [] none::rs) l ⟨(d,v)::fl,nt⟩ ⟨B,π,k,hl⟩ K):RS P ops draw rs (⟨some d,.load t x,ty,pos,af,gd⟩::l) ⟨fl,nt⟩ ⟨B,π,k,hl⟩ K:=by
 have h1:=hu.eq
 cases ht:P.underlying t with
 | none=>rw [ht] at h1;cases h1
 | some td =>
  rw [ht] at h1
  simp only [Option.map_some,Option.some.injEq] at h1
  refine RS.step hw hd (One.reads (h:=⟨B,π,k,hl⟩) (vl:=[]) (nv:=none) (fun a g H hs=>?_) trivial) hk
  exact TX.load1 (P:=P) (o:=⟨some d,.load t x,ty,pos,af,gd⟩) (ev:=a.eval) (h:=H) rfl ht h1 (g.ev hx) rfl (by rw [hs.b rfl blk hlt];exact hb) (by simpa using hv)
end
end Go.AH
namespace Go.AH
variable {P:Program}
theorem add_plain (b off n:Nat):(⟨b,off,none⟩:Addr).add n=⟨b,off+n,none⟩:=by
 unfold Addr.add
 split
 ·rename_i h;subst h;rfl
 ·rfl
section
variable {ops:Array Oper} {draw:Bool} {rs:List Rk} {l:List Oper} {fl:List (Nat × Value)} {nt:Nat} {h:SH} {B:Hp} {π:Nat→Nat} {k:Nat} {hl:List (Nat × Option Blk)} {K:Fr→SH→Prop} {d:Tmp} {ty:TypeId} {pos:String} {af:Array Edge} {gd:Option (Nat × Bool)}
theorem RS.indexAddrS [Pend] {t e:TypeId} {sz:Nat} {x y:Operand} {b off len cap:Nat} {k':IntKind} {i:Int} {n:Nat} [hu:TyU P t (.slice e)] [hz:TySz P e sz] (hw:wantB ops ⟨some d,.indexAddr t x y,ty,pos,af,gd⟩ ⟨fl,nt⟩=some true) (hd:Nat.blt d nt=true) (hx:Fr.ev ⟨fl,nt⟩ x=some (.slice (some ⟨b,off,none⟩) len cap))
 (hy:Fr.ev ⟨fl,nt⟩ y=some (.int k' i)) (hi:i=(n:Int)) (hn:n < len)
 (hk:RS P ops draw (recP h.k false [] none::rs) l ⟨(d,.pointer (some ⟨b,off+n * sz,none⟩))::fl,nt⟩ h K):RS P ops draw rs (⟨some d,.indexAddr t x y,ty,pos,af,gd⟩::l) ⟨fl,nt⟩ h K:=by
 rw [← add_plain] at hk;exact RS.indexAddr hw hd hx hy hi hn hk
end
end Go.AH
namespace Go.AH
variable {P:Program}
def fillR (sz:Nat):List Value→List (Nat × Value)→Option (List Value)
 | cs,[]=>some cs
 | cs,(i,v)::rest=>bif Nat.beq (cellsV v).length sz && Nat.ble (Nat.add (Nat.mul i sz) sz) cs.length then fillR sz (setL cs (Nat.mul i sz) (cellsV v)) rest else none
theorem fillR_eq {sz:Nat}:∀ {parts:List (Nat × Value)} {cs cs':List Value},fillR sz cs parts=some cs'→Instr.fill (fun i=>some (i * sz,sz)) ⟨cs⟩ parts=some ⟨cs'⟩:=by
 intro parts
 induction parts with
 | nil=>intro cs cs' h;simp only [fillR,Option.some.injEq] at h;subst h;rfl
 | cons p rest ih =>
  obtain ⟨i,v⟩:=p
  intro cs cs' h
  simp only [fillR] at h
  cases hc:(Nat.beq (cellsV v).length sz && Nat.ble (Nat.add (Nat.mul i sz) sz) cs.length) with
  | false=>rw [hc] at h;cases h
  | true =>
   rw [hc] at h
   simp only [cond_true] at h
   simp only [Bool.and_eq_true] at hc
   have h1:=Nat.eq_of_beq_eq_true hc.1
   have h2:i * sz+sz≤cs.length:=ble_iff.1 hc.2
   simp only [Instr.fill]
   simp only [cellsV_eq,List.size_toArray]
   have e3:(⟨cellsV v⟩:Array Value).zipIdx.foldl (fun (cs:Array Value) (p:Value × Nat)=>cs.setIfInBounds (i * sz+p.2) p.1) (⟨cs⟩:Array Value)=(⟨setL cs (i * sz) (cellsV v)⟩:Array Value):=by
    rw [← Array.foldl_toList,Array.toList_zipIdx]
    exact foldl_zip (cellsV v) cs (i * sz) 0
   have hcond:¬ ((decide ((cellsV v).length≠sz) || decide (i * sz+(cellsV v).length > cs.length))=true):=by
    simp [h1];omega
   rw [if_neg hcond,e3]
   exact ih h
def repL (zs:List Value):Nat→List Value
 | 0=>[]
 | n+1=>zs++repL zs n
theorem repL_length (zs:List Value):∀ n,(repL zs n).length=n * zs.length:=by
 intro n
 induction n with
 | zero=>simp [repL]
 | succ n ih=>simp [repL,ih,Nat.add_mul];omega
theorem repL_get {zs:List Value} (hz:0 < zs.length):∀ n i,i < n * zs.length→(repL zs n)[i]?=zs[i % zs.length]?:=by
 intro n
 induction n with
 | zero=>intro i h;simp at h
 | succ n ih =>
  intro i h
  rw [repL]
  by_cases hi:i < zs.length
  ·rw [List.getElem?_append_left hi,Nat.mod_eq_of_lt hi]
  ·have e:=Nat.add_mul n 1 zs.length
   rw [List.getElem?_append_right (by omega),ih (i - zs.length) (by omega),← Nat.mod_eq_sub_mod (by omega)]
theorem zeros_rep {zs:List Value} (hz:0 < zs.length) (n:Nat):zeros ⟨zs⟩ (n * zs.length)=⟨repL zs n⟩:=by
 apply Array.ext'
 apply List.ext_getElem?
 intro i
 unfold zeros
 rw [Array.toList_map,List.getElem?_map]
 show _=(repL zs n)[i]?
 by_cases hi:i < n * zs.length
 ·rw [repL_get hz n i hi]
  have h1:(Array.range (n * zs.length)).toList[i]?=some i:=by
   rw [Array.getElem?_toList,Array.getElem?_eq_getElem (by simpa using hi)];simp
  have hm:i % zs.length < zs.length:=Nat.mod_lt _ hz
  rw [h1,List.getElem?_eq_getElem hm]
  simp only [Option.map_some,Option.some.injEq,List.size_toArray]
  rw [getElem!_pos (⟨zs⟩:Array Value) (i % zs.length) (by simpa using hm)]
  rfl
 ·have h1:(Array.range (n * zs.length)).toList[i]?=none:=by
   rw [Array.getElem?_toList,Array.getElem?_eq_none (by simpa using hi)]
  rw [h1,List.getElem?_eq_none (by rw [repL_length];omega)];rfl
section
variable {ops:Array Oper} {draw:Bool} {rs:List Rk} {l:List Oper} {fl:List (Nat × Value)} {nt:Nat} {B:Hp} {π:Nat→Nat} {k:Nat} {hl:List (Nat × Option Blk)} {K:Fr→SH→Prop} {d:Tmp} {ty:TypeId} {pos:String} {af:Array Edge} {gd:Option (Nat × Bool)}
theorem RS.buildSlice [Pend] {t e:TypeId} {len sz:Nat} {parts:Array (Nat × Operand)} {cs:List Value} {z:Value} {ps:List (Nat × Value)} [hu:TyU P t (.slice e)] [hs:TySz P e sz] [hz:TyZ P e z] (hw:wantB ops ⟨some d,.buildSlice t len parts,ty,pos,af,gd⟩ ⟨fl,nt⟩=some true) (hd:Nat.blt d nt=true)
 (hp:partsV fl nt parts.toList=some ps) (hl0:Nat.beq (cellsV z).length sz=true) (hp0:Nat.blt 0 sz=true) (hn0:Nat.blt 0 len=true) (hbig:Nat.ble (Nat.mul len sz) 16777216=true) (hf:fillR sz (repL (cellsV z) len) ps=some cs)
 (hk:RS P ops draw (recN k false [] (some [k]) none::rs) l ⟨(d,.slice (some ⟨π k,0,none⟩) len len)::fl,nt⟩ ⟨B,π,k+1,(k,some ⟨⟨cs⟩,e⟩)::hl⟩ K):RS P ops draw rs (⟨some d,.buildSlice t len parts,ty,pos,af,gd⟩::l) ⟨fl,nt⟩ ⟨B,π,k,hl⟩ K:=by
 have h1:=hz.eq
 have hsz:=hs.eq
 cases hi:P.info? e with
 | none=>rw [hi] at h1;cases h1
 | some ti =>
  rw [hi] at h1 hsz
  have h2:ti.zero=some z:=h1
  have h3:ti.size=sz:=by simpa using hsz
  subst h3
  have hzf:=freeB_bnd hz.fr
  have hl1:(cellsV z).length=ti.size:=Nat.eq_of_beq_eq_true hl0
  have hp1:=blt_iff.1 hp0
  have hn1:=blt_iff.1 hn0
  have hb1:len * ti.size≤16777216:=ble_iff.1 hbig
  have hpos:0 < len * ti.size:=Nat.mul_pos hn1 hp1
  refine RS.step hw hd (One.new (h:=⟨B,π,k,hl⟩) (b:=⟨⟨cs⟩,e⟩) (cn:=none) (fun a g H hs=>?_) ?_ fun u hu=>trivial) hk
  ·have hfill:Instr.fill (fun i=>some (i * ti.size,ti.size)) (zeros z.cells (len * ti.size)) (parts.toList.map fun p=>(p.1,a.eval p.2))=some ⟨cs⟩:=by
    rw [partsV_ok g hp,cellsV_eq,← hl1,zeros_rep (by omega),hl1]
    exact fillR_eq hf
   have:=TX.buildSlice (P:=P) (o:=⟨some d,.buildSlice t len parts,ty,pos,af,gd⟩) (ev:=a.eval) (h:=H) rfl hu.eq hi h2 hzf hu.ltE (by simpa using hb1) (by omega) hfill
   rw [hs.n] at this;exact this
  ·show ment _ _
   rw [ment];exact .inr ⟨k,by simp,rfl⟩
theorem RS.appendNil [Pend] {t e:TypeId} {x y:Operand} {i off n c sz by':Nat} {ds:List Value} {z:Value} {e2:TypeId} [hu:TyU P t (.slice e)] [hs:TySz P e sz] [hb:TyBy P e by'] [hz:TyZ P e z] (hw:wantB ops ⟨some d,.call { callee:=.builtin .append,args:=#[x,y],argTypes:=#[t,t] },ty,pos,af,gd⟩ ⟨fl,nt⟩=some true) (hd:Nat.blt d nt=true)
 (hx:Fr.ev ⟨fl,nt⟩ x=some (.slice none 0 0)) (hy:Fr.ev ⟨fl,nt⟩ y=some (.slice (some ⟨π i,off,none⟩) n c)) (hl0:Nat.beq (cellsV z).length sz=true) (hp0:Nat.blt 0 sz=true) (hik:Nat.blt i k=true) (hbi:lookB hl i=some ⟨⟨ds⟩,e2⟩) (hn:off+n * sz≤ds.length) (hn0:0 < n) (hbig:n * by'≤140737488355328) (h63:n≤9223372036854775807)
 (hk:RS P ops draw (recN k false [i] (some [k]) none::rs) l ⟨(d,.slice (some ⟨π k,0,none⟩) n (capOf sz))::fl,nt⟩ ⟨B,π,k+1,(k,some ⟨⟨takeV off (n * sz) ds⟩,e⟩)::hl⟩ K):RS P ops draw rs (⟨some d,.call { callee:=.builtin .append,args:=#[x,y],argTypes:=#[t,t] },ty,pos,af,gd⟩::l) ⟨fl,nt⟩ ⟨B,π,k,hl⟩ K:=by
 have h1:=hz.eq
 have hsz:=hs.eq
 have hby:=hb.eq
 cases hi:P.info? e with
 | none=>rw [hi] at h1;cases h1
 | some ti =>
  rw [hi] at h1 hsz hby
  have h2:ti.zero=some z:=h1
  have h3:ti.size=sz:=by simpa using hsz
  have h4:ti.bytes=by':=by simpa using hby
  subst h3;subst h4
  have hzf:=freeB_bnd hz.fr
  have hl1:(cellsV z).length=ti.size:=Nat.eq_of_beq_eq_true hl0
  refine RS.step hw hd (One.new (h:=⟨B,π,k,hl⟩) (b:=⟨⟨takeV off (n * ti.size) ds⟩,e⟩) (cn:=none) (fun a g H hs=>?_) ?_ fun u hu=>trivial) hk
  ·have hm:H.m (π i)=some ⟨⟨ds⟩,e2⟩:=by have:=hs.l i (memL_self i []) (blt_iff.1 hik);rw [this];exact hbi
   have hsrc:srcCells H ti.size n (a.eval y)=some ⟨takeV off (n * ti.size) ds⟩:=by
    rw [g.ev hy]
    simp only [srcCells,hm]
    rw [if_pos ⟨trivial,by simpa using hn⟩]
    congr 1
    apply Array.ext'
    rw [takeV_eq];simp [Array.toList_extract,List.extract_eq_take_drop]
   have hlen:(takeV off (n * ti.size) ds).length=n * ti.size:=by rw [takeV_eq];simp;omega
   have:=TX.appendNew (P:=P) (o:=⟨some d,.call { callee:=.builtin .append,args:=#[x,y],argTypes:=#[t,t] },ty,pos,af,gd⟩) (ev:=a.eval) (h:=H) (len:=0) (cap:=0) (n:=n) (old:=#[]) (new:=⟨takeV off (n * ti.size) ds⟩) rfl hu.eq hu.eq rfl hi h2 hzf hu.ltE (by rw [cellsV_eq];exact hl1) (blt_iff.1 hp0) (g.ev hx) (by decide) rfl (by simp) (by rw [g.ev hy];rfl) hsrc (by simpa using hlen) (by omega) (by omega) (by rw [Nat.zero_add];exact hbig)
   rw [hs.n,Nat.zero_add,Array.empty_append] at this;exact this
  ·show ment _ _
   rw [ment];exact .inr ⟨k,by simp,rfl⟩
theorem RS.appendGrow [Pend] {t e:TypeId} {x y:Operand} {i j off len n c sz by':Nat} {cs ds:List Value} {z:Value} {e2:TypeId} [hu:TyU P t (.slice e)] [hs:TySz P e sz] [hb:TyBy P e by'] [hz:TyZ P e z] (hw:wantB ops ⟨some d,.call { callee:=.builtin .append,args:=#[x,y],argTypes:=#[t,t] },ty,pos,af,gd⟩ ⟨fl,nt⟩=some true) (hd:Nat.blt d nt=true)
 (hx:Fr.ev ⟨fl,nt⟩ x=some (.slice (some ⟨π j,0,none⟩) len (capOf sz))) (hy:Fr.ev ⟨fl,nt⟩ y=some (.slice (some ⟨π i,off,none⟩) n c)) (hl0:Nat.beq (cellsV z).length sz=true) (hp0:Nat.blt 0 sz=true) (hjk:Nat.blt j k=true) (hbj:lookB hl j=some ⟨⟨cs⟩,e⟩) (hcs:cs.length=len * sz)
 (hik:Nat.blt i k=true) (hbi:lookB hl i=some ⟨⟨ds⟩,e2⟩) (hn:off+n * sz≤ds.length) (hone:(takeV off (n * sz) ds).all (·.oneCell')=true) (hbig:(len+n) * by'≤140737488355328) (h63:len+n≤9223372036854775807)
 (hk:RS P ops draw (recG k false [i] j (some [k]) none::rs) l ⟨(d,.slice (some ⟨π k,0,none⟩) (len+n) (capOf sz))::fl,nt⟩ ⟨B,π,k+1,(k,some ⟨⟨cs++takeV off (n * sz) ds⟩,e⟩)::(j,none)::hl⟩ K):RS P ops draw rs (⟨some d,.call { callee:=.builtin .append,args:=#[x,y],argTypes:=#[t,t] },ty,pos,af,gd⟩::l) ⟨fl,nt⟩ ⟨B,π,k,hl⟩ K:=by
 have h1:=hz.eq
 have hsz:=hs.eq
 have hby:=hb.eq
 cases hi:P.info? e with
 | none=>rw [hi] at h1;cases h1
 | some ti =>
  rw [hi] at h1 hsz hby
  have h2:ti.zero=some z:=h1
  have h3:ti.size=sz:=by simpa using hsz
  have h4:ti.bytes=by':=by simpa using hby
  subst h3;subst h4
  have hzf:=freeB_bnd hz.fr
  have hl1:(cellsV z).length=ti.size:=Nat.eq_of_beq_eq_true hl0
  refine RS.step hw hd (One.grow (h:=⟨B,π,k,hl⟩) (vb:=false) (vl:=[i]) (b:=⟨⟨cs++takeV off (n * ti.size) ds⟩,e⟩) (cn:=none) hjk (fun a g H hs=>?_) ?_ fun u hu=>trivial) hk
  ·have hmi:H.m (π i)=some ⟨⟨ds⟩,e2⟩:=by have:=hs.l i (memL_iff.2 (by simp)) (blt_iff.1 hik);rw [this];exact hbi
   have hmj:H.m (π j)=some ⟨⟨cs⟩,e⟩:=by have:=hs.l j (memL_iff.2 (by simp)) (blt_iff.1 hjk);rw [this];exact hbj
   have hsrc:srcCells H ti.size n (a.eval y)=some ⟨takeV off (n * ti.size) ds⟩:=by
    rw [g.ev hy]
    simp only [srcCells,hmi]
    rw [if_pos ⟨trivial,by simpa using hn⟩]
    congr 1
    apply Array.ext'
    rw [takeV_eq];simp [Array.toList_extract,List.extract_eq_take_drop]
   have hlen:(takeV off (n * ti.size) ds).length=n * ti.size:=by rw [takeV_eq];simp;omega
   have:=TX.appendGrow (P:=P) (o:=⟨some d,.call { callee:=.builtin .append,args:=#[x,y],argTypes:=#[t,t] },ty,pos,af,gd⟩) (ev:=a.eval) (h:=H) (i:=π j) (len:=len) (n:=n) (b:=⟨⟨cs⟩,e⟩) (new:=⟨takeV off (n * ti.size) ds⟩) rfl hu.eq hu.eq rfl hi h2 hzf hu.ltE (by rw [cellsV_eq];exact hl1) (blt_iff.1 hp0) (g.ev hx) (hs.own j (blt_iff.1 hjk)) hmj rfl (by simpa using hcs) (by rw [g.ev hy];rfl) hsrc (by simpa using hlen) (by simpa using hone) h63 hbig
   rw [hs.n,List.append_toArray] at this;exact this
  ·show ment _ _
   rw [ment];exact .inr ⟨k,by simp,rfl⟩
end
theorem TF.leave1 {f:FuncId} {args:Array Value} {h h1:Hp} {v1 v2:Value} {j:Nat} {b:Blk} (ht:TF P f args h v1 h1) (hj:h.n≤j) (hb:h1.m j=some b) (hold:∀ i,i < h.n→h1.m i=h.m i) (hcs:∀ v∈b.cells,bnd h.n v) (hv:bnd (h.n+1) v2)
 (hren:∀ ρ ρ2:Env,Agree h.n ρ ρ2→ρ2.loc h.n=ρ.loc j→ρ2.cap h.n=ρ.cap j→ρ2.sh h.n=ρ.sh j→ren ρ2 v2=ren ρ v1):TF P f args h v2 (h.push b):=by
 intro ha ρ W hok
 refine (ht ha ρ W hok).mono ?_
 rintro e W' ⟨ρ',rfl,_,hok',hE⟩
 have hm:∀ i,(h.push b).m i=if i=h.n then some b else h.m i:=fun i=>rfl
 have hag:=ρ'.add_agree h.n (ρ'.loc j) (ρ'.cap j)
 have hj0:rwM≤j:=Nat.le_trans hok.gle hj
 have hsj:ρ'.sh j=0:=(hok'.fits j b hb).sh0 hj0
 have hnew:(ρ'.add h.n (ρ'.loc j) (ρ'.cap j)).loc h.n=ρ'.loc j∧(ρ'.add h.n (ρ'.loc j) (ρ'.cap j)).cap h.n=ρ'.cap j∧(ρ'.add h.n (ρ'.loc j) (ρ'.cap j)).sh h.n=ρ'.sh j:=by simp [Env.add,hsj]
 have hup:∀ i c,h.m i=some c→h1.m i=some c:=fun i c hc=>by rw [hold i (hok.lt i c hc)];exact hc
 refine ⟨ρ'.add h.n (ρ'.loc j) (ρ'.cap j),by rw [hren ρ' _ hag hnew.1 hnew.2.1 hnew.2.2],hv,⟨fun i c hi=>?_,fun i c hi=>?_,fun i l c d hi0 hi hl he=>?_,fun i c hi u hu=>?_,fun g hg=>?_,?_,hok.gow⟩,
  ⟨fun i hi=>?_,by simp [Hp.push],hE.kept,hE.size,fun i c hi0 hi hl=>?_,hE.tape,hE.os,hE.output,fun i c hin hi=>?_⟩⟩
 ·rw [hm] at hi
  by_cases e:i=h.n
  ·rw [if_pos e] at hi
   injection hi with hi
   subst hi;subst e
   exact (hok'.fits j b hb).conv (by rw [hnew.1]) rfl (Array.map_congr_left fun v hv=>ren_agree hag v (hcs v hv)) (fun _=>hnew.2.1) hnew.2.2 fun _=>hj0
  ·rw [if_neg e] at hi
   have hil:=hok.lt i c hi
   rw [(hag i hil).1]
   exact (hok'.fits i c (hup i c hi)).agree hag hil (hok.bd i c hi)
 ·rw [hm] at hi
  by_cases e:i=h.n
  ·subst e;simp [Hp.push]
  ·rw [if_neg e] at hi;have:=hok.lt i c hi;simp [Hp.push];omega
 ·rw [hm] at hi hl
  have old:∀ q c,h.m q=some c→ρ'.loc q≠ρ'.loc j:=by
   intro q c hq e
   have:=hok'.inj j q b c hj0 hb (hup q c hq) e.symm
   have:=hok.lt q c hq;omega
  by_cases e1:i=h.n<;>by_cases e2:l=h.n
  ·omega
  ·rw [if_neg e2] at hl
   subst e1
   rw [hnew.1,(hag l (hok.lt l d hl)).1] at he
   exact absurd he.symm (old l d hl)
  ·rw [if_neg e1] at hi
   subst e2
   rw [hnew.1,(hag i (hok.lt i c hi)).1] at he
   exact absurd he (old i c hi)
  ·rw [if_neg e1] at hi
   rw [if_neg e2] at hl
   rw [(hag i (hok.lt i c hi)).1,(hag l (hok.lt l d hl)).1] at he
   exact hok.inj i l c d hi0 hi hl (by rw [← (hE.agree i (hok.lt i c hi)).1,← (hE.agree l (hok.lt l d hl)).1];exact he)
 ·rw [hm] at hi
  by_cases e:i=h.n
  ·rw [if_pos e] at hi
   injection hi with hi
   subst hi
   exact bnd_mono (by simp [Hp.push]) u (hcs u hu)
  ·rw [if_neg e] at hi
   exact bnd_mono (by simp [Hp.push]) u (hok.bd i c hi u hu)
 ·rw [(hag g (Nat.lt_of_lt_of_le hg hok.gn)).1,(hE.agree g (Nat.lt_of_lt_of_le hg hok.gn)).1,(hag g (Nat.lt_of_lt_of_le hg hok.gn)).2.2,(hE.agree g (Nat.lt_of_lt_of_le hg hok.gn)).2.2];exact hok.glob g hg
 ·have:=hok.gle;simp [Hp.push];omega
 ·exact ⟨((hag i hi).1).trans (hE.agree i hi).1,((hag i hi).2.1).trans (hE.agree i hi).2.1,((hag i hi).2.2).trans (hE.agree i hi).2.2⟩
 ·rw [hm] at hi
  by_cases e:i=h.n
  ·rw [if_pos e] at hi
   injection hi with hi
   subst hi;subst e
   rw [hnew.1] at hl ⊢
   exact hE.own j b hj0 hb hl
  ·rw [if_neg e] at hi
   exact ⟨i,c,hi0,hi,by rw [(hag i (hok.lt i c hi)).1,(hE.agree i (hok.lt i c hi)).1]⟩
 ·rw [hm] at hi
  rw [if_neg (by omega)] at hi
  exact hE.surv i c hin (hup i c hi)
theorem TF.ends {g:FuncId} {fn:Func} {c:Code} {args:List Value} {nt:Nat} {h:Hp} {Q:List Value→SH→Prop} (hf:P.funcs[g]?=some fn) (hb:fn.body=some c) (ht:fn.ntmps=nt) (hn:Nat.ble args.length nt=true)
 (hw:W P c ⟨enterL 0 args,nt⟩ (SH.of h) (endsK P fn Q)) {v':Value} {h1:Hp} (hfin:∀ (vs:List Value) (h':SH),h'.WF→Q vs h'→(∀ i,i < h.n→h'.base=h→h'.den.m i=h.m i)→(bnd h'.den.n (resultOf vs)→TF P g ⟨args⟩ h (resultOf vs) h'.den)→TF P g ⟨args⟩ h v' h1):TF P g ⟨args⟩ h v' h1:=by
 subst ht
 intro ha ρ W hok
 have hd:∀ i b,h.m i=some b→i < h.n:=hok.lt
 have hden:=SH.of_den hd
 obtain ⟨e,f',h',a',k1,w1,s1,b1,g1,t1⟩:=hw (enterAct fn ⟨args⟩) (SH.of_wf hok.gle hd) (by rw [hden];exact ⟨ρ,W,hok⟩) (by rw [hden];exact enterAct_bnd ha) (enter_agr (ble_iff.1 hn))
 rw [hden] at t1
 have fin:∀ vs,(e=.ret∨e=.normal)→ResVs P f'.l h' fn.results.toList vs→Q vs h'→TF P g ⟨args⟩ h v' h1:=by
  intro vs he hr hq
  refine hfin vs h' w1 hq (fun i hi hbase=>?_) fun hbv=>?_
  ·simp only [SH.den,hbase];rw [if_pos hi]
  ·refine TF.intro hf hb he t1 g1.defers (fun _ _=>hbv) ?_
   exact hr.is w1 g1
 cases e with
 | ret=>obtain ⟨vs,h1,h2⟩:=k1;exact fin vs (.inl rfl) h1 h2 ha ρ W hok
 | normal=>obtain ⟨vs,h1,h2⟩:=k1;exact fin vs (.inr rfl) h1 h2 ha ρ W hok
 | _=>exact k1.elim
end Go.AH
namespace Go.AH
variable {P:Program}
section
variable {ops:Array Oper} {draw:Bool} {rs:List Rk} {l:List Oper} {fl:List (Nat × Value)} {nt:Nat} {B:Hp} {π:Nat→Nat} {k:Nat} {hl:List (Nat × Option Blk)} {K:Fr→SH→Prop} {d:Tmp} {ty:TypeId} {pos:String} {af:Array Edge} {gd:Option (Nat × Bool)}
end
theorem idx_mod {n:Int} {m:Nat} (hm:0 < m) (hb:m≤1000000):∃ i:Nat,i < m∧(IntKind.i64.wrap (n.tmod m+m)).tmod m=(i:Int):=by
 have h1:(n.tmod m).natAbs < m:=by
  rw [Int.natAbs_tmod];simp;exact Nat.mod_lt _ hm
 have h2:-(m:Int) < n.tmod m∧n.tmod m < m:=by omega
 rw [wrap64_fit (by omega) (by omega)]
 refine ⟨((n.tmod m+m).tmod m).toNat,?_,?_⟩
 ·have:=Int.tmod_lt_of_pos (n.tmod m+m) (b:=(m:Int)) (by omega)
  have h3:=Int.tmod_nonneg (a:=n.tmod m+m) (m:Int) (by omega)
  omega
 ·have h3:=Int.tmod_nonneg (a:=n.tmod m+m) (m:Int) (by omega)
  omega
end Go.AH
namespace Go.AH
variable {P:Program}
section
variable {ops:Array Oper} {draw:Bool} {rs:List Rk} {l:List Oper} {fl:List (Nat × Value)} {nt:Nat} {B:Hp} {π:Nat→Nat} {k:Nat} {hl:List (Nat × Option Blk)} {K:Fr→SH→Prop} {d:Tmp} {ty:TypeId} {pos:String} {af:Array Edge} {gd:Option (Nat × Bool)}
theorem RS.makeSlice [Pend] {t e:TypeId} {x y:Operand} {n sz by':Nat} {kx ky:IntKind} {z:Value} {cs:List Value} [hu:TyU P t (.slice e)] [hs:TySz P e sz] [hb:TyBy P e by'] [hz:TyZ P e z] (hw:wantB ops ⟨some d,.makeSlice t x y,ty,pos,af,gd⟩ ⟨fl,nt⟩=some true) (hd:Nat.blt d nt=true)
 (hx:Fr.ev ⟨fl,nt⟩ x=some (.int kx (n:Int))) (hy:Fr.ev ⟨fl,nt⟩ y=some (.int ky (n:Int))) (hl0:Nat.beq (cellsV z).length sz=true) (hp0:Nat.blt 0 sz=true) (hbig:n≤9223372036854775807∧by' * n≤281474976710656) (hc:repL (cellsV z) n=cs)
 (hk:RS P ops draw (recN k false [] (some [k]) none::rs) l ⟨(d,.slice (some ⟨π k,0,none⟩) n n)::fl,nt⟩ ⟨B,π,k+1,(k,some ⟨⟨cs⟩,e⟩)::hl⟩ K):RS P ops draw rs (⟨some d,.makeSlice t x y,ty,pos,af,gd⟩::l) ⟨fl,nt⟩ ⟨B,π,k,hl⟩ K:=by
 have h1:=hz.eq
 have hsz:=hs.eq
 have hby:=hb.eq
 cases hi:P.info? e with
 | none=>rw [hi] at h1;cases h1
 | some ti =>
  rw [hi] at h1 hsz hby
  have h2:ti.zero=some z:=h1
  have h3:ti.size=sz:=by simpa using hsz
  have h4:ti.bytes=by':=by simpa using hby
  subst h3;subst h4
  have hzf:=freeB_bnd hz.fr
  have hl1:(cellsV z).length=ti.size:=Nat.eq_of_beq_eq_true hl0
  have hp1:=blt_iff.1 hp0
  refine RS.step hw hd (One.new (h:=⟨B,π,k,hl⟩) (b:=⟨⟨cs⟩,e⟩) (cn:=none) (fun a g H hs=>?_) ?_ fun u hu=>trivial) hk
  ·have:=TX.makeSlice (P:=P) (o:=⟨some d,.makeSlice t x y,ty,pos,af,gd⟩) (ev:=a.eval) (h:=H) (l:=n) (c:=n) rfl hu.eq hi h2 hzf hu.ltE (g.ev hx) (g.ev hy) (Nat.le_refl _) hbig.1 (by simpa using hbig.2)
   rw [hs.n,cellsV_eq,← hl1,zeros_rep (by omega),hc] at this;exact this
  ·show ment _ _
   rw [ment];exact .inr ⟨k,by simp,rfl⟩
theorem RS.boolEql [Pend] {h:SH} {t yt:TypeId} {x y:Operand} {a b:Bool} [hu:TyU P t .bool] (hw:wantB ops ⟨some d,.binOp .eql t x y yt,ty,pos,af,gd⟩ ⟨fl,nt⟩=some true) (hd:Nat.blt d nt=true)
 (hx:Fr.ev ⟨fl,nt⟩ x=some (.bool a)) (hy:Fr.ev ⟨fl,nt⟩ y=some (.bool b))
 (hk:RS P ops draw (recP h.k false [] (some [])::rs) l ⟨(d,.bool (a == b))::fl,nt⟩ h K):RS P ops draw rs (⟨some d,.binOp .eql t x y yt,ty,pos,af,gd⟩::l) ⟨fl,nt⟩ h K :=
 RS.boolEq (q:=true) hw hd hx hy rfl hk
end
def fillB (N j:Nat) (a b:Value):List Value:=List.replicate j a++List.replicate (N - j) b
end Go.AH
namespace Go.AH
variable {P:Program}
section
variable {ops:Array Oper} {draw:Bool} {rs:List Rk} {l:List Oper} {fl:List (Nat × Value)} {nt:Nat} {h:SH} {K:Fr→SH→Prop} {d:Tmp} {ty:TypeId} {pos:String} {af:Array Edge} {gd:Option (Nat × Bool)}
end
end Go.AH
namespace Go.AH
variable {P:Program}
def eqV:TypeDesc→Value→Value→Option Bool
 | .int _,.int k a,.int k' b=>if k=k' then some (decide (a=b)) else none
 | .bool,.bool a,.bool b=>some (a == b)
 | .string,.string a,.string b=>some (decide (a=b))
 | _,_,_=>none
def eqVs:List TypeDesc→List Value→List Value→Option Bool
 | [],[],[]=>some true
 | d::ds,u::us,v::vs=>match eqV d u v,eqVs ds us vs with
  | some a,some b=>some (a && b)
  | _,_=>none
 | _,_,_=>none
def plainD:TypeDesc→Bool
 | .int _=>true
 | .bool=>true
 | .string=>true
 | _=>false
def plainFs (P:Program):List Field→Nat→Option (List TypeDesc)
 | [],_=>some []
 | f::fs,i=>match P.underlying f.type,plainFs P fs (i+1) with
  | some d, some ds => bif !(f.name == "_") && (Nat.beq f.offset i && plainD d) then some (d :: ds) else none
  | _,_=>none
def plainS (P:Program) (t:TypeId):Option (List TypeDesc):=match P.underlying t with
 | some (.struct fs)=>bif !(P.stoodInHeld t) && !(P.eqGuardType P.depth t) then plainFs P fs.toList 0 else none
 | _=>none
class TyP (P:Program) (t:TypeId) (ds:outParam (List TypeDesc)):Prop where
 eq:plainS P t=some ds
theorem eqV_run [Pend] {d:TypeDesc} {t:TypeId} {u v:Value} {b:Bool} (n:Nat) (W:World) (hu:P.underlying t=some d) (h:eqV d u v=some b):(Op.equalIn (n+1) t u v).run P W=.ok b W:=by
 unfold eqV at h
 split at h
 ·split at h
  ·rename_i hk
   injection h with h
   subst hk;subst h
   rw [run_equalIn_int W n t _ _ _ _ hu]
   congr 1
  ·cases h
 ·injection h with h;subst h;exact run_equalIn_bool W n t _ _ hu
 ·injection h with h
  subst h
  rw [run_equalIn_string W n t _ _ hu]
  congr 1
  rw [Bool.eq_iff_iff]
  simp only [ByteArray.toList_eq,beq_iff_eq,decide_eq_true_eq,Array.toList_inj]
  exact ⟨ByteArray.ext,fun e=>by rw [e]⟩
 ·cases h
theorem eqFs_run [Pend] {xs ys:List Value} (n:Nat) (W:World):∀ (fs:List Field) (i:Nat) (ds:List TypeDesc) (b:Bool),plainFs P fs i=some ds→eqVs ds (xs.drop i) (ys.drop i)=some b→(Op.eqFields (n+1) ⟨xs⟩ ⟨ys⟩ fs).run P W=.ok b W:=by
 intro fs
 induction fs with
 | nil =>
  intro i ds b hd he
  simp only [plainFs,Option.some.injEq] at hd
  subst hd
  cases h1:xs.drop i<;>cases h2:ys.drop i<;>rw [h1,h2] at he<;>simp only [eqVs,Option.some.injEq,reduceCtorEq] at he
  subst he
  simp [Op.eqFields]
 | cons f fs ih =>
  intro i ds b hd he
  rw [plainFs] at hd
  split at hd
  ·rename_i d ds' hu hds
   cases hc : (!(f.name == "_") && (Nat.beq f.offset i && plainD d)) with
   | false=>rw [hc] at hd;cases hd
   | true =>
    rw [hc] at hd
    simp only [cond_true,Option.some.injEq] at hd
    subst hd
    simp only [Bool.and_eq_true,Bool.not_eq_true',beq_eq_false_iff_ne,ne_eq] at hc
    obtain ⟨hn,ho,hp⟩:=hc
    have ho:=Nat.eq_of_beq_eq_true ho
    cases h1:xs.drop i with
    | nil=>rw [h1] at he;simp [eqVs] at he
    | cons u us =>
     cases h2:ys.drop i with
     | nil=>rw [h1,h2] at he;simp [eqVs] at he
     | cons v vs =>
      rw [h1,h2] at he
      simp only [eqVs] at he
      have d1:xs.drop (i+1)=us:=by rw [← List.drop_drop,h1];rfl
      have d2:ys.drop (i+1)=vs:=by rw [← List.drop_drop,h2];rfl
      split at he
      ·rename_i a c ha hcc
       injection he with he
       subst he
       have hpk:P.plainKey f.type=true:=by
        unfold Program.plainKey;rw [hu]
        cases d<;>simp [plainD] at hp<;>rfl
       have g1:(⟨xs⟩:Array Value)[f.offset]?=some u:=by
        have:=congrArg (·[0]?) h1
        rw [ho];simpa using this
       have g2:(⟨ys⟩:Array Value)[f.offset]?=some v:=by
        have:=congrArg (·[0]?) h2
        rw [ho];simpa using this
       have p1:=run_part_plain W hpk g1
       have p2:=run_part_plain W hpk g2
       have p3:=eqV_run n W hu ha
       have p4:=ih (i+1) ds' c hds (by rw [d1,d2];exact hcc)
       simp only [Op.eqFields,hn,ne_eq,not_false_eq_true,if_true,Sem.run_bind,p1,p2,p3,Result.andThen_ok]
       cases a
       ·simp
       ·simpa using p4
      ·cases he
  ·cases hd
theorem eqAgg_run [Pend] {t:TypeId} {ds:List TypeDesc} [hp:TyP P t ds] {xs ys:List Value} {b:Bool} (W:World) (h:eqVs ds xs ys=some b):(Op.equal t (.agg ⟨xs⟩) (.agg ⟨ys⟩)).run P W=.ok b W∧P.eqGuardType P.depth t=false:=by
 have h1:=hp.eq
 unfold plainS at h1
 split at h1
 ·rename_i fs hu
  cases hc:(!(P.stoodInHeld t) && !(P.eqGuardType P.depth t)) with
  | false=>rw [hc] at h1;cases h1
  | true =>
   rw [hc] at h1
   simp only [cond_true] at h1
   simp only [Bool.and_eq_true,Bool.not_eq_true'] at hc
   have hfs:P.fieldsOf t=fs:=by simp [Program.fieldsOf,hu]
   refine ⟨?_,hc.2⟩
   show (Op.equalIn (9998+1+1) t (.agg ⟨xs⟩) (.agg ⟨ys⟩)).run P W=_
   rw [run_equalIn_struct W (9998+1) t ⟨xs⟩ ⟨ys⟩ (by rw [hfs];exact hu) hc.1,hfs]
   exact eqFs_run 9998 W fs.toList 0 ds b h1 (by simpa using h)
 ·cases h1
section
variable {ops:Array Oper} {draw:Bool} {rs:List Rk} {l:List Oper} {fl:List (Nat × Value)} {nt:Nat} {h:SH} {K:Fr→SH→Prop} {d:Tmp} {ty:TypeId} {pos:String} {af:Array Edge} {gd:Option (Nat × Bool)}
theorem eqVs_free:∀ {ds:List TypeDesc} {xs ys:List Value} {b:Bool},eqVs ds xs ys=some b→(∀ v∈xs,bnd 0 v)∧(∀ v∈ys,bnd 0 v):=by
 intro ds
 induction ds with
 | nil=>intro xs ys b h;cases xs<;>cases ys<;>simp [eqVs] at h ⊢
 | cons d ds ih =>
  intro xs ys b h
  cases xs with
  | nil=>simp [eqVs] at h
  | cons u us =>
   cases ys with
   | nil=>simp [eqVs] at h
   | cons v vs =>
    simp only [eqVs] at h
    split at h
    ·rename_i a c ha hc
     obtain ⟨h1,h2⟩:=ih hc
     have h3:bnd 0 u∧bnd 0 v:=by
      unfold eqV at ha
      split at ha<;>first|exact ⟨by simp,by simp⟩|cases ha
     refine ⟨fun w hw=>?_,fun w hw=>?_⟩
     ·rcases List.mem_cons.1 hw with rfl|hw
      ·exact h3.1
      ·exact h1 w hw
     ·rcases List.mem_cons.1 hw with rfl|hw
      ·exact h3.2
      ·exact h2 w hw
    ·cases h
theorem eqGuard_agg [Pend] {op:BinOp} {q:Bool} {t:TypeId} {x y:Operand} {xs ys:Array Value} (_hq:isEq op=some q) (W:World) (hg:P.eqGuardType P.depth t=false):(eqGuard op t x y (.agg xs) (.agg ys)).run P W=.ok () W:=by
 cases op<;>simp [eqGuard,hg]
theorem tx_eqAgg {op:BinOp} {q b c:Bool} {t yt:TypeId} {x y:Operand} {xs ys:List Value} {ds:List TypeDesc} [hp:TyP P t ds] {a:Act} {H:Hp} (hx:a.eval x=.agg ⟨xs⟩) (hy:a.eval y=.agg ⟨ys⟩) (hq:isEq op=some q) (hv:eqVs ds xs ys=some b) (hc:c=if q=true then b else !b) :
 TX P ⟨some d,.binOp op t x y yt,ty,pos,af,gd⟩ a.eval H (.bool c) H:=by
 obtain ⟨f1,f2⟩:=eqVs_free hv
 refine TX.pure (fun _ _=>by simp) (fun z hz=>?_) (fun W=>?_) (by simp)
 ·simp only [Op.operands,List.mem_toArray,List.mem_cons,List.not_mem_nil,or_false] at hz
  rcases hz with rfl|rfl
  ·rw [hx];simpa using f1
  ·rw [hy];simpa using f2
 ·obtain ⟨e1,e2⟩:=eqAgg_run (P:=P) (t:=t) W hv
  simp only [execOp,hx,hy,Sem.run_bind,eqGuard_agg hq W e2,Result.andThen_ok]
  cases op<;>simp only [isEq,Option.some.injEq,reduceCtorEq] at hq<;>subst hq<;>subst hc<;>simp [binOp,e1]
theorem RS.eqlAgg [Pend] {b:Bool} {t yt:TypeId} {x y:Operand} {xs ys:List Value} {ds:List TypeDesc} [hp:TyP P t ds] (hw:wantB ops ⟨some d,.binOp .eql t x y yt,ty,pos,af,gd⟩ ⟨fl,nt⟩=some true) (hd:Nat.blt d nt=true)
 (hx:Fr.ev ⟨fl,nt⟩ x=some (.agg ⟨xs⟩)) (hy:Fr.ev ⟨fl,nt⟩ y=some (.agg ⟨ys⟩)) (hv:eqVs ds xs ys=some b)
 (hk:RS P ops draw (recP h.k false [] (some [])::rs) l ⟨(d,.bool b)::fl,nt⟩ h K):RS P ops draw rs (⟨some d,.binOp .eql t x y yt,ty,pos,af,gd⟩::l) ⟨fl,nt⟩ h K :=
 RS.free hw hd (fun _ g _=>tx_eqAgg (g.ev hx) (g.ev hy) rfl hv rfl) (by simp) hk
theorem RS.convNat [Pend] {src dst:TypeId} {x:Operand} {k k':IntKind} {a:Nat} [hs:TyU P src (.int k)] [hu:TyU P dst (.int k')] (hw:wantB ops ⟨some d,.convert src dst x,ty,pos,af,gd⟩ ⟨fl,nt⟩=some true) (hd:Nat.blt d nt=true)
 (hx:Fr.ev ⟨fl,nt⟩ x=some (.int k a)) (hf:k'.wrap (a:Int)=(a:Int))
 (hk:RS P ops draw (recP h.k false [] (some [])::rs) l ⟨(d,.int k' a)::fl,nt⟩ h K):RS P ops draw rs (⟨some d,.convert src dst x,ty,pos,af,gd⟩::l) ⟨fl,nt⟩ h K:=by
 refine RS.pure1 (v:=.int k' a) (by simp [Op.operands]) (by simp) hw hd hx (by simp) (by simp) (fun ev W he=>?_) hk
 simp [execOp,convert,rU hs.eq,rU hu.eq,he,Conv.intToInt,hf]
end
end Go.AH
namespace Go.AH
variable {P:Program}
def reX (π:Nat→Nat) (k:Nat) (m:List Nat) (i:Nat):Nat:=match nthL m i with
 | some j=>π j
 | none=>π (k+(i - m.length))
def okM (m:List Nat) (k:Nat):Bool:=distinctB m && m.all fun j=>Nat.blt j k
def ownO:List Nat→List (Nat × Option Blk)→Nat→List (Nat × Option Blk)
 | [],_,_=>[]
 | j::m,L,i=>(j,lookB L i)::ownO m L (i+1)
def newO (k k0:Nat) (L:List (Nat × Option Blk)):Nat→List (Nat × Option Blk)
 | 0=>[]
 | n+1=>(k+n,lookB L (k0+n))::newO k k0 L n
def afterO (m:List Nat) (k d:Nat) (L l:List (Nat × Option Blk)):List (Nat × Option Blk):=newO k m.length L d++(ownO m L 0++l)
section
variable {m:List Nat} {k d:Nat} {L l:List (Nat × Option Blk)}
end
def recO (k d:Nat) (m:List Nat):Rk:={ vb:=true,vl:=m,k:=k,k':=k+d,w:=m,wb:=false,nv:=none,cn:=none }
def TO (P:Program) (g:FuncId) (B:Hp) (k0 d:Nat) (args:(Nat→Nat)→List Value) (L:(Nat→Nat)→List (Nat × Option Blk)) (v:(Nat→Nat)→Value) (L':(Nat→Nat)→List (Nat × Option Blk)):Prop :=
 ∀ π,(⟨B,π,k0,L π⟩:SH).WF→TF P g ⟨args π⟩ (⟨B,π,k0,L π⟩:SH).den (v π) (⟨B,π,k0+d,L' π⟩:SH).den
def FreshL (L L':List (Nat × Option Blk)):Nat→Prop
 | 0=>True
 | n+1=>(lookB L' n=none∨∃ b,lookB L n=some b)∧FreshL L L' n
def MatchL (L l:List (Nat × Option Blk)):List Nat→Nat→Prop
 | [],_=>True
 | a::m,i=>lookB L i=lookB l a∧MatchL L l m (i+1)
section
variable {ops:Array Oper} {draw:Bool} {rs:List Rk} {l:List Oper} {fl:List (Nat × Value)} {nt:Nat} {B:Hp} {π:Nat→Nat} {k:Nat} {hl:List (Nat × Option Blk)} {K:Fr→SH→Prop} {d:Option Tmp} {ty:TypeId} {pos:String} {af:Array Edge} {gd:Option (Nat × Bool)}
end
end Go.AH
namespace Go.AH
variable {P:Program}
theorem TF.leaveN {g:FuncId} {args:Array Value} {h h1 h2:Hp} {v1 v2:Value} {τ:Nat→Nat} (ht:TF P g args h v1 h1) (hn:h.n≤h2.n) (hτ:∀ i,i < h.n→τ i=i)
 (hdom:∀ i b,h2.m i=some b→i < h2.n) (hbd:∀ i b,h2.m i=some b→∀ u∈b.cells,bnd h2.n u) (hbv:bnd h2.n v2) (hm:∀ i b,h2.m i=some b→h1.m (τ i)=some (subB τ b)) (hown:∀ i b,h2.m i=some b→h.n≤i→rwM≤h.n→rwM≤τ i)
 (hinj:∀ i j b c,h2.m i=some b→h2.m j=some c→τ i=τ j→i=j) (hv:v1=sub τ v2):TF P g args h v2 h2:=by
 intro ha ρ W hok
 refine (ht ha ρ W hok).mono ?_
 rintro e W' ⟨ρ',rfl,_,hok',hE⟩
 have hr:∀ u,ren ρ' (sub τ u)=ren (subE τ ρ') u:=ren_sub τ ρ'
 have hown':∀ i b,h2.m i=some b→rwM≤i→rwM≤τ i:=fun i b hb hi0=>by
  by_cases hi:i < h.n
  ·rw [hτ i hi];exact hi0
  ·exact hown i b hb (by omega) hok.gle
 refine ⟨subE τ ρ',by rw [hv,hr],hbv,⟨fun i b hb=>?_,hdom,fun i j b c hi0 hb hc e=>?_,hbd,fun g hg=>?_,Nat.le_trans hok.gle hn,hok.gow⟩,⟨fun i hi=>?_,hn,hE.kept,hE.size,fun i b hi0 hb hl=>?_,hE.tape,hE.os,hE.output,fun i b hi hb=>?_⟩⟩
 ·have em:(subB τ b).cells.map (ren ρ')=b.cells.map (ren (subE τ ρ')):=by
   simp only [subB,Array.map_map]
   exact Array.map_congr_left fun u _=>hr u
  exact (hok'.fits (τ i) _ (hm i b hb)).conv rfl rfl em.symm (fun _=>rfl) rfl (hown' i b hb)
 ·exact hinj i j b c hb hc (hok'.inj _ _ _ _ (hown' i b hb hi0) (hm i b hb) (hm j c hc) e)
 ·show ρ'.loc (τ g)=g∧ρ'.sh (τ g)=0
  rw [hτ g (Nat.lt_of_lt_of_le hg hok.gn)];exact hok'.glob g hg
 ·show ρ'.loc (τ i)=_∧ρ'.cap (τ i)=_∧ρ'.sh (τ i)=_
  rw [hτ i hi];exact hE.agree i hi
 ·exact hE.own (τ i) _ (hown' i b hb hi0) (hm i b hb) hl
 ·have h3:=hm i b hb
  rw [hτ i hi] at h3
  obtain ⟨c,q1,q2,q3⟩:=hE.surv i _ hi h3
  have es:(subB τ b).cells.size=b.cells.size:=by simp [subB]
  rw [es] at q2 q3
  exact ⟨c,q1,q2,q3⟩
def ParV (n K:Nat) (F:(Nat→Nat)→Value):Prop :=
 (∀ (τ π:Nat→Nat),(∀ i,i < n→τ i=i)→sub τ (F π)=F (fun j=>τ (π j)))∧∀ (π:Nat→Nat) (N:Nat),n≤N→(∀ j,j < K→π j < N)→bnd N (F π)
def ParB (n K:Nat) (F:(Nat→Nat)→Option Blk):Prop :=
 (∀ (τ π:Nat→Nat),(∀ i,i < n→τ i=i)→(F π).map (subB τ)=F (fun j=>τ (π j)))∧∀ (π:Nat→Nat) (N:Nat) (b:Blk),n≤N→(∀ j,j < K→π j < N)→F π=some b→∀ u∈b.cells,bnd N u
def ParL (n K:Nat) (L:(Nat→Nat)→List (Nat × Option Blk)):Nat→Prop
 | 0=>True
 | i+1=>ParB n K (fun π=>lookB (L π) i)∧ParL n K L i
def EqUp (f g:Nat→Nat):Nat→Prop
 | 0=>True
 | n+1=>f n=g n∧EqUp f g n
def AtO (B:Hp) (π:Nat→Nat) (k0 d:Nat) (L':(Nat→Nat)→List (Nat × Option Blk)) (v:(Nat→Nat)→Value) (vs:List Value) (h':SH):Prop :=
 ∃ m:List Nat,m.length=k0+d∧okM m h'.k=true∧h'.base=B∧EqUp (reX h'.π h'.k m) π k0∧MatchL (L' (reX h'.π h'.k m)) h'.l m 0∧resultOf vs=v (reX h'.π h'.k m)
def roundP {X:Type} (F:(Nat→Nat)→X→List (Nat × Value)) (B:X→Hp) (L:(Nat→Nat)→X→List (Nat × Option Blk)) (I:(Nat→Nat)→X→Prop) (μ:X→Nat) (k0 nt:Nat) (x:X) (K:Exit→Fr→SH→Prop):Exit→Fr→SH→Prop
 | .normal,f,h=>∃ (x':X) (m:List Nat),m.length=k0∧f.nt=nt∧FitL f h m (F · x') (B x') (L · x')∧I (rePi h.π h.k m) x'∧μ x' < μ x
 | e,f,h=>K e f h
def joinP {X:Type} (F:(Nat→Nat)→X→List (Nat × Value)) (B:X→Hp) (L:(Nat→Nat)→X→List (Nat × Option Blk)) (I:(Nat→Nat)→X→Prop) (k0 nt:Nat) (K:Exit→Fr→SH→Prop):Exit→Fr→SH→Prop
 | .normal,f,h=>∃ (x:X) (m:List Nat),m.length=k0∧f.nt=nt∧FitL f h m (F · x) (B x) (L · x)∧I (rePi h.π h.k m) x
 | e,f,h=>K e f h
section
variable {X:Type} {F:(Nat→Nat)→X→List (Nat × Value)} {B:X→Hp} {L:(Nat→Nat)→X→List (Nat × Option Blk)} {I:(Nat→Nat)→X→Prop} {μ:X→Nat} {k0 nt:Nat} {K:Exit→Fr→SH→Prop} {f:Fr} {h:SH} {x:X} {i:Nat}
end
end Go.AH
namespace Go.AH
variable {P:Program}
section
variable {ops:Array Oper} {draw:Bool} {rs:List Rk} {l:List Oper} {fl:List (Nat × Value)} {nt:Nat} {h:SH} {K:Fr→SH→Prop} {d:Tmp} {ty:TypeId} {pos:String} {af:Array Edge} {gd:Option (Nat × Bool)}
theorem RS.nilCheck [Pend] {x:Operand} {A:Addr} (hw:wantB ops ⟨some d,.nilCheck x,ty,pos,af,gd⟩ ⟨fl,nt⟩=some true) (hd:Nat.blt d nt=true) (hx:Fr.ev ⟨fl,nt⟩ x=some (.pointer (some A)))
 (hk:RS P ops draw (recP h.k false [] none::rs) l ⟨(d,.pointer (some A))::fl,nt⟩ h K):RS P ops draw rs (⟨some d,.nilCheck x,ty,pos,af,gd⟩::l) ⟨fl,nt⟩ h K :=
 RS.still (nv:=none) hw hd (fun a g H=>by
  have:=TX.nilCheck (P:=P) (o:=⟨some d,.nilCheck x,ty,pos,af,gd⟩) (ev:=a.eval) (h:=H) rfl (g.ev hx)
  rw [g.ev hx] at this;exact this) trivial hk
end
def RowQ (cs:(Nat→Nat)→List Value) (e len cap:Nat) (h:Hp) (vs:List Value) (h':SH):Prop:=h'.base=h∧∃ i,i < h'.k∧lookB h'.l i=some ⟨⟨cs h'.π⟩,e⟩∧resultOf vs=.slice (some ⟨h'.π i,0,none⟩) len cap
end Go.AH
namespace Go.AH
variable {P:Program}
section
variable {ops:Array Oper} {draw:Bool} {rs:List Rk} {l:List Oper} {fl:List (Nat × Value)} {nt:Nat} {h:SH} {K:Fr→SH→Prop} {d:Tmp} {ty:TypeId} {pos:String} {af:Array Edge} {gd:Option (Nat × Bool)}
theorem RS.eqPtrNil [Pend] {t e yt:TypeId} {x y:Operand} {A:Option Addr} [hu:TyU P t (.pointer e)] (hw:wantB ops ⟨some d,.binOp .eql t x y yt,ty,pos,af,gd⟩ ⟨fl,nt⟩=some true) (hd:Nat.blt d nt=true)
 (hx:Fr.ev ⟨fl,nt⟩ x=some (.pointer A)) (hy:Fr.ev ⟨fl,nt⟩ y=some (.pointer none))
 (hk:RS P ops draw (recP h.k false [] (some [])::rs) l ⟨(d,.bool A.isNone)::fl,nt⟩ h K):RS P ops draw rs (⟨some d,.binOp .eql t x y yt,ty,pos,af,gd⟩::l) ⟨fl,nt⟩ h K :=
 RS.free hw hd (fun a g H=>by
  have:=TX.eqPtrNil (P:=P) (o:=⟨some d,.binOp .eql t x y yt,ty,pos,af,gd⟩) (ev:=a.eval) (h:=H) (op:=.eql) rfl rfl hu.eq (g.ev hx) (g.ev hy)
  simpa using this) (by simp) hk
end
end Go.AH
