/-
  Walking through code with a list of known values and blocks;it holds of any program whose types are as told.
-/
import Derived.Deep.Slices
import Derived.Test.YtgpigfcagppohaaGreatDoorS1
import Derived.Test.YtgpigfcagppohaaGreatDoorS2
import GoSem.ClaimJoined
set_option linter.unusedVariables false
set_option linter.unusedSimpArgs false
namespace Go.AH
variable {P:Program}
def recS (k b c:Nat) (v:Value):Rk:={ vb:=false,vl:=[],k:=k,k':=k,w:=[],wb:=false,nv:=none,cn:=none,st:=some (b,c,v) }
section
variable {ops:Array Oper} {draw:Bool} {rs:List Rk} {l:List Oper} {fl:List (Nat × Value)} {nt:Nat} {B:Hp} {π:Nat→Nat} {k:Nat} {hl:List (Nat × Option Blk)} {K:Fr→SH→Prop} {d:Tmp} {ty:TypeId} {pos:String} {af:Array Edge} {gd:Option (Nat × Bool)}
theorem effS {n0:Nat} {b c:Nat} {v:Value} (id:Nat):effR n0 π (recS k b c v) id=false:=by
 unfold effR recS
 by_cases h:id < n0
 ·simp [h]
 ·simp only [h,if_false]
  cases hi:idx π k id with
  | none=>rfl
  | some i=>have:=(idx_some hi).1;simp [memL,this]
theorem RS.loadS [Pend] {t:TypeId} {x:Operand} {blk off:Nat} {cs:List Value} {e:TypeId} {v:Value} [hu:TyOne P t] (hw:wantB ops ⟨some d,.load t x,ty,pos,af,gd⟩ ⟨fl,nt⟩=some true) (hd:Nat.blt d nt=true) (hx:Fr.ev ⟨fl,nt⟩ x=some (.pointer (some ⟨blk,off,none⟩)))
 (hb:B.m blk=some ⟨⟨cs⟩,e⟩) (hlt:blk < B.n) (hv:cs[off]?=some v)
 (hk:RS P ops draw (recS k blk off v::rs) l ⟨(d,v)::fl,nt⟩ ⟨B,π,k,hl⟩ K):RS P ops draw rs (⟨some d,.load t x,ty,pos,af,gd⟩::l) ⟨fl,nt⟩ ⟨B,π,k,hl⟩ K:=by
 have h1:=hu.eq
 cases ht:P.underlying t with
 | none=>rw [ht] at h1;cases h1
 | some td =>
  rw [ht] at h1
  simp only [Option.map_some,Option.some.injEq] at h1
  intro xs a0 h0 a p
  let h:SH:=⟨B,π,k,hl⟩
  have hso:ops[xs.length]?=some ⟨some d,.load t x,ty,pos,af,gd⟩:=by
   rw [← Array.getElem?_toList,← p.os,List.getElem?_append_right (by simp)];simp
  have hopk:=okOpsB_ok p.oks hso
  have htx:∀ H,StC H blk off v→TX P ⟨some d,.load t x,ty,pos,af,gd⟩ a.eval H v H:=by
   rintro H ⟨_,Bk,g1,g2⟩
   exact TX.load1 (P:=P) (o:=⟨some d,.load t x,ty,pos,af,gd⟩) (ev:=a.eval) (h:=H) rfl ht h1 (p.agr.ev hx) rfl g1 g2
  have hbn:B.n≤h.den.n:=p.wf.bn
  have hst:StC h.den blk off v:=⟨Nat.lt_of_lt_of_le hlt hbn,_,SH.m_base p.wf hb,by simpa using hv⟩
  obtain ⟨s1,s2⟩:=TX.sat (htx _ hst) hopk p.sat p.bnd
  let y:Inf:={ o:=⟨some d,.load t x,ty,pos,af,gd⟩,a:=a,h:=h.den,v:=v,h':=h.den,hid:=hidR B.n π (recS k blk off v),eff:=effR B.n π (recS k blk off v),sta:=some (blk,off) }
  have hrec:RecR h (recS k blk off v) y :=
   ⟨rfl,rfl,rfl,rfl,Nat.le_refl _,p.wf.hi,p.wf.up,p.wf.inj,s2,p.sat.bd,trivial,(fun id b he=>by rw [show y.eff id=false from effS id] at he;cases he),rfl,(fun q hq=>by cases hq;exact ⟨hlt,rfl⟩),fun q hq=>by cases hq⟩
  refine hk (xs++[y]) a0 h0 (a.put (some d) v) ⟨chain_snoc p.chain rfl rfl,?_,?_,?_,?_,p.wf,p.sat,put_bnd p.bnd _ s2,p.agr.put (d:=some d) hd v,p.oks⟩
  ·rw [List.map_append,List.append_assoc];exact p.os
  ·intro z hz
   rcases List.mem_append.1 hz with h2|h2
   ·exact p.ok z h2
   ·simp only [List.mem_singleton] at h2
    subst h2
    exact ⟨.inr (.inr ⟨wantB_ok p.agr hw,hopk,rfl,fun id=>effS id,blk,off,rfl,hst,htx⟩),Nat.le_refl _,fun _ _ hn=>hn,fun _ _=>rfl,fun id he=>by rw [show y.eff id=false from effS id] at he;cases he⟩
  ·simp [p.len]
  ·exact fun hdr=>told_snoc p.len (p.told hdr) rfl rfl hrec p.wf.bn
theorem RS.nilPC [Pend] {ops:Array Oper} {rs:List Rk} {f:Fr} {h:SH} {K:Fr→SH→Prop} (hm:P.follows .mixedOrders=true) (L:List (Nat × Nat)) (hL:freeP P ops=some L) (hp:pairsOK rs.reverse L) (hside:∀ x∈rs,∀ y∈rs,SideX x y) (hno:noSt rs=true) (hk:K f h):RS P ops true rs [] f h K:=RS.nilPX hm L hL hp hside hk hno
theorem RS.nePtrN [Pend] {h:SH} {t e yt:TypeId} {x y:Operand} {A:Option Addr} [hu:TyU P t (.pointer e)] (hw:wantB ops ⟨some d,.binOp .neq t x y yt,ty,pos,af,gd⟩ ⟨fl,nt⟩=some true) (hd:Nat.blt d nt=true)
 (hx:Fr.ev ⟨fl,nt⟩ x=some (.pointer A)) (hy:Fr.ev ⟨fl,nt⟩ y=some (.pointer none))
 (hk:RS P ops draw (recP h.k false [] (some [])::rs) l ⟨(d,.bool !A.isNone)::fl,nt⟩ h K):RS P ops draw rs (⟨some d,.binOp .neq t x y yt,ty,pos,af,gd⟩::l) ⟨fl,nt⟩ h K :=
 RS.free hw hd (fun a g H=>by
  have:=TX.eqPtrNil (P:=P) (o:=⟨some d,.binOp .neq t x y yt,ty,pos,af,gd⟩) (ev:=a.eval) (h:=H) (op:=.neq) rfl rfl hu.eq (g.ev hx) (g.ev hy)
  simpa using this) (by simp) hk
theorem RS.appendFullG [Pend] {t e:TypeId} {x y:Operand} {i j off len n c sz by':Nat} {cs ds:List Value} {z:Value} {e1 e2:TypeId} [hu:TyU P t (.slice e)] [hs:TySz P e sz] [hb:TyBy P e by'] [hz:TyZ P e z] (hw:wantB ops ⟨some d,.call { callee:=.builtin .append,args:=#[x,y],argTypes:=#[t,t] },ty,pos,af,gd⟩ ⟨fl,nt⟩=some true) (hd:Nat.blt d nt=true)
 (hx:Fr.ev ⟨fl,nt⟩ x=some (.slice (some ⟨j,0,none⟩) len len)) (hy:Fr.ev ⟨fl,nt⟩ y=some (.slice (some ⟨π i,off,none⟩) n c)) (hl0:Nat.beq (cellsV z).length sz=true) (hp0:Nat.blt 0 sz=true) (hbj:B.m j=some ⟨⟨cs⟩,e1⟩) (hjn:j < B.n) (hcs:cs.length=len * sz) (hlm:len < capMark)
 (hik:Nat.blt i k=true) (hbi:lookB hl i=some ⟨⟨ds⟩,e2⟩) (hn:off+n * sz≤ds.length) (hn0:0 < n) (hbig:(len+n) * by'≤140737488355328) (h63:len+n≤9223372036854775807)
 (hk:RS P ops draw (recN k true [i] (some [k]) none::rs) l ⟨(d,.slice (some ⟨π k,0,none⟩) (len+n) (capOf sz))::fl,nt⟩ ⟨B,π,k+1,(k,some ⟨⟨cs++takeV off (n * sz) ds⟩,e⟩)::hl⟩ K):RS P ops draw rs (⟨some d,.call { callee:=.builtin .append,args:=#[x,y],argTypes:=#[t,t] },ty,pos,af,gd⟩::l) ⟨fl,nt⟩ ⟨B,π,k,hl⟩ K:=by
 have h1:=hz.eq
 have hsz:=hs.eq
 have hby:=hb.eq
 cases hi:P.info? e with
 | none=>rw [hi] at h1;cases h1
 | some ti =>
  rw [hi] at h1 hsz hby
  have h2:ti.zero=some z:=h1
  have h3:ti.size=sz:=by simpa using hsz
  have h4:ti.bytes=by':=by simpa using hby
  subst h3;subst h4
  have hzf:=freeB_bnd hz.fr
  have hl1:(cellsV z).length=ti.size:=Nat.eq_of_beq_eq_true hl0
  refine RS.step hw hd (One.new (h:=⟨B,π,k,hl⟩) (b:=⟨⟨cs++takeV off (n * ti.size) ds⟩,e⟩) (cn:=none) (fun a g H hs=>?_) ?_ fun u hu=>trivial) hk
  ·have hmi:H.m (π i)=some ⟨⟨ds⟩,e2⟩:=by have:=hs.l i (memL_iff.2 (by simp)) (blt_iff.1 hik);rw [this];exact hbi
   have hmj:H.m j=some ⟨⟨cs⟩,e1⟩:=by rw [hs.b rfl j hjn];exact hbj
   have hsrc:srcCells H ti.size n (a.eval y)=some ⟨takeV off (n * ti.size) ds⟩:=by
    rw [g.ev hy]
    simp only [srcCells,hmi]
    rw [if_pos ⟨trivial,by simpa using hn⟩]
    congr 1
    apply Array.ext'
    rw [takeV_eq];simp [Array.toList_extract,List.extract_eq_take_drop]
   have hold:srcCells H ti.size len (.slice (some ⟨j,0,none⟩) len len)=some ⟨cs⟩:=by
    simp only [srcCells,hmj]
    rw [if_pos ⟨trivial,by simp [hcs]⟩]
    congr 1
    apply Array.ext'
    simp [Array.toList_extract,List.extract_eq_take_drop,← hcs]
   have hlen:(takeV off (n * ti.size) ds).length=n * ti.size:=by rw [takeV_eq];simp;omega
   have:=TX.appendNew (P:=P) (o:=⟨some d,.call { callee:=.builtin .append,args:=#[x,y],argTypes:=#[t,t] },ty,pos,af,gd⟩) (ev:=a.eval) (h:=H) (len:=len) (cap:=len) (n:=n) (old:=⟨cs⟩) (new:=⟨takeV off (n * ti.size) ds⟩) rfl hu.eq hu.eq rfl hi h2 hzf hu.ltE (by rw [cellsV_eq];exact hl1) (blt_iff.1 hp0) (g.ev hx) hlm hold (by simpa using hcs) (by rw [g.ev hy];rfl) hsrc (by simpa using hlen) (by omega) h63 hbig
   rw [hs.n,List.append_toArray] at this;exact this
  ·show ment _ _
   rw [ment];exact .inr ⟨k,by simp,rfl⟩
def staP (rs:List Rk):List (Nat × Nat)→Prop
 | []=>True
 | (i,j)::L=>(∀ x y,rs[i]?=some x→rs[j]?=some y→StaX x y)∧staP rs L
theorem staP_mem {rs:List Rk} {i j:Nat}:∀ {L:List (Nat × Nat)},staP rs L→(i,j)∈L→∀ x y,rs[i]?=some x→rs[j]?=some y→StaX x y:=by
 intro L
 induction L with
 | nil=>intro _ h;cases h
 | cons p L ih =>
  intro h hm
  rcases List.mem_cons.1 hm with e|e
  ·subst e;exact h.1
  ·exact ih h.2 e
theorem RS.nilPS [Pend] {ops:Array Oper} {rs:List Rk} {f:Fr} {h:SH} {K:Fr→SH→Prop} (hm:P.follows .mixedOrders=true) (L:List (Nat × Nat)) (hL:freeP P ops=some L) (hp:pairsOK rs.reverse L) (hside:∀ x∈rs,∀ y∈rs,SideX x y) (hsta:staP rs.reverse L) (hk:K f h):RS P ops true rs [] f h K:=by
 refine RS.nilG hm (fun _=>?_) (fun _=>hside) (fun _ l hpl i j o m x y hj hb hij hx hy=>?_) hk
 ·unfold freeP at hL
  unfold finalChk
  cases hpl:planD P ops with
  | none=>rw [hpl] at hL;cases hL
  | some l =>
   rw [hpl] at hL
   simp only [Option.some.injEq] at hL ⊢
   refine pairsAll_free fun j y m hy hmm=>pairsOne_free fun i x hx hb=>?_
   rw [Nat.zero_add] at hx hb
   have hi:i < j:=by
    have:=(List.getElem?_eq_some_iff.1 hx).1
    simp at this;omega
   rw [List.getElem?_take,if_pos hi] at hx
   have:=mem_freeAll (j0:=0) hmm (by omega) hb
   rw [Nat.zero_add,hL] at this
   exact pairsOK_mem hp this x y hx hy
 ·unfold freeP at hL
  rw [hpl] at hL
  simp only [Option.some.injEq] at hL
  have hmm:(l.map (·.2))[j]?=some m:=by rw [List.getElem?_map,hj];rfl
  have:=mem_freeAll (j0:=0) hmm (by omega) hb
  rw [Nat.zero_add,hL] at this
  exact staP_mem hsta this x y hx hy
end
def sbN:List Rk→Prop
 | []=>True
 | r::rs=>r.sb=none∧sbN rs
theorem sbN_side:∀ {rs:List Rk},sbN rs→∀ x∈rs,∀ y∈rs,SideX x y:=by
 have key:∀ {rs:List Rk},sbN rs→∀ x∈rs,x.sb=none:=by
  intro rs
  induction rs with
  | nil=>intro _ x hx;cases hx
  | cons r rs ih =>
   intro h x hx
   rcases List.mem_cons.1 hx with e|e
   ·subst e;exact h.1
   ·exact ih h.2 x e
 intro rs h x _ y hy e q _ hq
 rw [key h y hy] at hq;cases hq
theorem cutC_up {P:Program} {H B7:Hp} {n k k' sb:Nat} {c:Blk} {π:Nat→Nat} {l l':List (Nat × Option Blk)} (hd:(⟨cutH H n,π,k,l⟩:SH).den=H) (a:Absb (P:=P) ⟨(cutH H n).set sb c,π,k',l'⟩ B7) (hk:k≤k') (hl:∀ j,j < k→lookB l' j=lookB l j):∀ i c',i≠sb→H.m i=some c'→B7.m i=some c':=by
 intro i c' hne hc
 rw [← hd] at hc
 simp only [SH.den] at hc
 by_cases hi:i < (cutH H n).n
 ·rw [if_pos hi] at hc
  rw [a.old i hi]
  show (if i=sb then some c else (cutH H n).m i)=_
  rw [if_neg hne];exact hc
 ·rw [if_neg hi] at hc
  cases hx:idx π k i with
  | none=>rw [hx] at hc;cases hc
  | some j =>
   rw [hx] at hc
   obtain ⟨g1,g2⟩:=idx_some hx
   rw [← g2,a.loc j (Nat.lt_of_lt_of_le g1 hk),hl j g1];exact hc
end Go.AH
namespace Go.AH
variable {P:Program}
theorem WD.moveDefer {D:List Deferred} {f:Fr} {h:SH} {K:List Deferred→Exit→Fr→SH→Prop} {id:Nat} {d0:Tmp} {x0:Operand} {g0:FuncId} {ts:Array TypeId} {ty ty0:TypeId} {pos pos0:String} {af af0:Array Edge} {v:Value}
 (hk:okOpsB P.globals.size #[⟨some d0,.move x0,ty0,pos0,af0,none⟩,⟨none,.defer { callee:=.value (.func g0),args:=#[.tmp d0],argTypes:=ts },ty,pos,af,none⟩]=true) (hd:okDst f.nt (some d0)=true) (hx:f.ev x0=some v)
 (hn:K ({ target:=.fn (.func g0) #[],args:=⟨[v]⟩ }::D) .normal ⟨(d0,v)::f.l,f.nt⟩ h):WD D P (.region id #[⟨some d0,.move x0,ty0,pos0,af0,none⟩,⟨none,.defer { callee:=.value (.func g0),args:=#[.tmp d0],argTypes:=ts },ty,pos,af,none⟩] false) f h K:=by
 intro a w s b g
 have hopk0:=okOpsB_ok hk (i:=0) (o:=⟨some d0,.move x0,ty0,pos0,af0,none⟩) rfl
 have hopk1:=okOpsB_ok hk (i:=1) (o:=⟨none,.defer { callee:=.value (.func g0),args:=#[.tmp d0],argTypes:=ts },ty,pos,af,none⟩) rfl
 have hgn:P.globals.size≤h.den.n:=by obtain ⟨ρ,W,ho⟩:=s;exact ho.gn
 have hv:a.eval x0=v:=@Agr.ev ⟨D⟩ _ _ g _ _ hx
 have hbv:bnd h.den.n v:=by rw [← hv];exact eval_bnd hgn b x0 (hopk0 x0 (by simp [Op.operands]))
 have g1:=@Agr.put ⟨D⟩ _ _ g (some d0) hd v
 have hev:(a.put (some d0) v).eval (.tmp d0)=v:=@Agr.ev ⟨D⟩ _ _ g1 (.tmp d0) v (by simp [Fr.ev,Fr.put,find_cons])
 have hr:RunOps P #[⟨some d0,.move x0,ty0,pos0,af0,none⟩,⟨none,.defer { callee:=.value (.func g0),args:=#[.tmp d0],argTypes:=ts },ty,pos,af,none⟩] (List.range 2) a h.den { a.put (some d0) v with defers:={ target:=.fn (.func g0) #[],args:=⟨[v]⟩ }::(a.put (some d0) v).defers } h.den:=by
  have h1:RunOps P #[⟨some d0,.move x0,ty0,pos0,af0,none⟩,⟨none,.defer { callee:=.value (.func g0),args:=#[.tmp d0],argTypes:=ts },ty,pos,af,none⟩] [1] (a.put (some d0) v) h.den { a.put (some d0) v with defers:={ target:=.fn (.func g0) #[],args:=⟨[v]⟩ }::(a.put (some d0) v).defers } h.den:=by
   refine RunOps.defer (i:=1) (l:=[]) (o:=⟨none,.defer { callee:=.value (.func g0),args:=#[.tmp d0],argTypes:=ts },ty,pos,af,none⟩) (first:=#[]) (captured:=#[]) (f:=g0) rfl rfl hopk1 rfl rfl ?_
   have e:(#[]++(#[Operand.tmp d0]:Array Operand).map (a.put (some d0) v).eval:Array Value)=⟨[v]⟩:=by
    simp only [List.map_toArray,List.map_cons,List.map_nil,hev,Array.empty_append]
   rw [e]
   exact RunOps.nil _ _
  exact RunOps.run (i:=0) (l:=[1]) (o:=⟨some d0,.move x0,ty0,pos0,af0,none⟩) (v:=v) rfl rfl hopk0 (by rw [← hv];exact TX.move rfl) h1
 have htc:=RunOps.region (id:=id) hr
 have hb1:bndA h.den.n { a.put (some d0) v with defers:={ target:=.fn (.func g0) #[],args:=⟨[v]⟩ }::(a.put (some d0) v).defers }:=by
  have hb2:=put_bnd b (some d0) hbv
  refine ⟨hb2.1,fun q hq=>?_⟩
  rcases List.mem_cons.1 hq with rfl|hq
  ·exact ⟨fun v hv=>absurd hv (by simp),fun u hu=>by
    have:u=v:=by simpa using hu
    rw [this];exact hbv⟩
  ·exact hb2.2 q hq
 refine ⟨_,_,_,h,{ a.put (some d0) v with defers:={ target:=.fn (.func g0) #[],args:=⟨[v]⟩ }::(a.put (some d0) v).defers },hn,w,s,hb1,?_,htc⟩
 have e1:(a.put (some d0) v).tmps.size=f.nt:=@Agr.size ⟨D⟩ (f.put (some d0) v) _ g1
 have e2:(a.put (some d0) v).defers=D:=@Agr.defers ⟨D⟩ (f.put (some d0) v) _ g1
 have e3:∀ t u,findV ((d0,v)::f.l) t=some u→(a.put (some d0) v).tmps[t]?=some u:=@Agr.get ⟨D⟩ (f.put (some d0) v) _ g1
 refine @Agr.mk ⟨⟨.fn (.func g0) #[],⟨[v]⟩⟩::D⟩ _ _ e1 ?_ e3
 show _::_=_::D
 rw [e2]
theorem WD.plain {c y:Code} {f:Fr} {h:SH} {D:List Deferred} {K:List Deferred→Exit→Fr→SH→Prop} (hw:∀ inst:Pend,inst.D=D→@W inst P c f h fun e f h=>thenD P y K D e f h):WD D P (.seq c y) f h K:=WD.seq (WD.lift hw)
end Go.AH
namespace Go.AH
theorem cutD_up {P:Program} {H B7:Hp} {n k k':Nat} {π:Nat→Nat} {l l':List (Nat × Option Blk)} (hd:(⟨cutH H n,π,k,l⟩:SH).den=H) (a:Absb (P:=P) ⟨cutH H n,π,k',l'⟩ B7) (hk:k≤k') (hl:∀ j,j < k→lookB l' j=lookB l j):∀ i c',H.m i=some c'→B7.m i=some c':=by
 intro i c' hc
 rw [← hd] at hc
 simp only [SH.den] at hc
 by_cases hi:i < (cutH H n).n
 ·rw [if_pos hi] at hc
  rw [a.old i hi];exact hc
 ·rw [if_neg hi] at hc
  cases hx:idx π k i with
  | none=>rw [hx] at hc;cases hc
  | some j =>
   rw [hx] at hc
   obtain ⟨g1,g2⟩:=idx_some hx
   rw [← g2,a.loc j (Nat.lt_of_lt_of_le g1 hk),hl j g1];exact hc
theorem cutD_old {P:Program} {H B7:Hp} {n k':Nat} {π:Nat→Nat} {l':List (Nat × Option Blk)} (a:Absb (P:=P) ⟨cutH H n,π,k',l'⟩ B7):∀ i,i < n→B7.m i=H.m i:=fun i hi=>by
 rw [a.old i hi];exact if_pos hi
section
variable {P:Program} {ops:Array Oper} {draw:Bool} {rs:List Rk} {l:List Oper} {fl:List (Nat × Value)} {nt:Nat} {B:Hp} {π:Nat→Nat} {k:Nat} {hl:List (Nat × Option Blk)} {K:Fr→SH→Prop} {d:Tmp} {ty:TypeId} {pos:String} {af:Array Edge} {gd:Option (Nat × Bool)}
theorem RS.loadNX [Pend] {t:TypeId} {x:Operand} {blk off size:Nat} {cs vs:List Value} {e:TypeId} [hu:TyAgg P t size] (hw:wantB ops ⟨some d,.load t x,ty,pos,af,gd⟩ ⟨fl,nt⟩=some true) (hd:Nat.blt d nt=true) (hx:Fr.ev ⟨fl,nt⟩ x=some (.pointer (some ⟨blk,off,none⟩)))
 (hb:B.m blk=some ⟨⟨cs⟩,e⟩) (hlt:blk < B.n) (hn:off+size≤cs.length) (hv:takeV off size cs=vs)
 (hk:RS P ops draw (recX k blk::rs) l ⟨(d,.agg ⟨vs⟩)::fl,nt⟩ ⟨B,π,k,hl⟩ K):RS P ops draw rs (⟨some d,.load t x,ty,pos,af,gd⟩::l) ⟨fl,nt⟩ ⟨B,π,k,hl⟩ K:=by
 subst hv
 obtain ⟨h1,h2⟩:=hu.eq
 cases ht:P.underlying t with
 | none=>rw [ht] at h1;cases h1
 | some td =>
  cases hti:P.info? t with
  | none=>rw [hti] at h2;cases h2
  | some ti =>
   rw [ht] at h1;rw [hti] at h2
   simp only [Option.map_some,Option.some.injEq] at h1 h2
   have heff:∀ id,effR B.n π (recX k blk) id=false:=by
    intro id
    unfold effR recX
    by_cases h:id < B.n
    ·simp [h]
    ·simp only [h,if_false]
     cases hi:idx π k id with
     | none=>rfl
     | some i=>have:=(idx_some hi).1;simp [memL,this]
   refine RS.step hw hd (h':=⟨B,π,k,hl⟩) (v:=.agg ⟨takeV off size cs⟩) (r:=recX k blk) ⟨fun w a g=>?_,fun w=>w,rfl,rfl,rfl,rfl,Nat.le_refl _,fun _ _ _=>rfl,(fun _ id he=>by rw [heff] at he;cases he),fun _ _ _ hn=>hn,trivial,(fun _ id b he=>by rw [heff] at he;cases he)⟩ hk
   have hm:((⟨B,π,k,hl⟩:SH).den.hide (hidR B.n π (recX k blk))).m blk=some ⟨⟨cs⟩,e⟩:=by
    have:hidR B.n π (recX k blk) blk=false:=by simp [hidR,recX,hlt]
    simp only [Hp.hide,this]
    exact SH.m_base w hb
   have:=TX.loadN (P:=P) (o:=⟨some d,.load t x,ty,pos,af,gd⟩) (ev:=a.eval) rfl ht h1 hti (g.ev hx) rfl hm (by rw [h2];simpa using hn)
   rw [h2] at this
   rw [takeV_eq]
   simpa using this
end
end Go.AH
namespace Go.AH
variable {P:Program}
def Hp.back (h h1:Hp) (s:Nat→Bool):Hp:=⟨fun i=>if s i then h.m i else h1.m i,h1.n⟩
theorem back_hid {h h1:Hp} {s:Nat→Bool} {i:Nat} (hs:s i=true):(h.back h1 s).m i=h.m i:=by
 show (if s i then _ else _)=_
 rw [if_pos hs]
theorem back_not {h h1:Hp} {s:Nat→Bool} {i:Nat} (hs:s i=false):(h.back h1 s).m i=h1.m i:=by
 show (if s i then _ else _)=_
 rw [if_neg (by rw [hs];decide)]
theorem back_hide {h h1:Hp} {s:Nat→Bool} {i:Nat} {b:Blk} (hb:((h.back h1 s).hide s).m i=some b):h1.m i=some b:=by
 obtain ⟨h2,h3⟩:=hide_some.1 hb
 rw [back_not h2] at h3;exact h3
theorem TF.frame {g:FuncId} {args:Array Value} {h h1:Hp} {v:Value} (s:Nat→Bool) (ht:TF P g args (h.hide s) v h1):TF P g args h v (h.back h1 s):=by
 intro ha ρ W hok
 refine (ht ha ρ W (hok.hide s)).mono ?_
 rintro e W' ⟨ρ',rfl,hv,hok',hE⟩
 have hok2:HOK P.globals.size ((h.back h1 s).hide s) ρ' W':=⟨fun i b hb=>hok'.fits i b (back_hide hb),fun i b hb=>hok'.lt i b (back_hide hb),fun i j b c hi hb hc=>hok'.inj i j b c hi (back_hide hb) (back_hide hc),fun i b hb=>hok'.bd i b (back_hide hb),hok'.glob,hok'.gle,hok'.gow⟩
 have hE2:Ext (h.hide s) ((h.back h1 s).hide s) ρ ρ' W W':=⟨hE.agree,hE.mono,hE.kept,hE.size,fun i b hi hb=>hE.own i b hi (back_hide hb),hE.tape,hE.os,hE.output,fun i b hi hb=>hE.surv i b hi (back_hide hb)⟩
 obtain ⟨k1,k2⟩:=hok.unhide hok2 hE2 fun i hi=>back_hid hi
 exact ⟨ρ',rfl,hv,k1,k2⟩
theorem TF.old {g:FuncId} {args:List Value} {h h1:Hp} {v:Value} (ht:TF P g ⟨args⟩ h v h1) (s:Sat P h) (hb:∀ v∈args,bnd h.n v):h.n≤h1.n∧Sat P h1∧∀ i b',i < h.n→h1.m i=some b'→∃ b,h.m i=some b:=by
 obtain ⟨ρ,W,hok⟩:=s
 obtain ⟨e,W',_,⟨ρ',_,_,hok',hE⟩,_⟩:=ht (fun x hx=>hb x (by simpa using hx)) ρ W hok []
 exact ⟨hE.mono,⟨ρ',W',hok'⟩,fun i b' hi hb'=>by obtain ⟨b,h2,_⟩:=hE.surv i b' hi hb';exact ⟨b,h2⟩⟩
theorem EX.frame {g:FuncId} {args:List Value} {h:Hp} {Q:Value→Hp→Prop} (s:Nat→Bool) (hs:∀ i,s i=true→i < h.n) (he:EX P g args (h.hide s) Q):EX P g args h (fun v h'=>∃ h1,Q v h1∧h'=h.back h1 s∧h.n≤h1.n∧∀ i c,h1.m i=some c→h'.m i=some c):=by
 rintro ⟨ρ,W,hok⟩ hb
 have st:Sat P (h.hide s):=⟨ρ,W,hok.hide s⟩
 obtain ⟨v,h1,ht,hq⟩:=he st hb
 obtain ⟨o1,_,o2⟩:=ht.old st hb
 refine ⟨v,_,ht.frame s,h1,hq,rfl,o1,fun i c hc=>?_⟩
 cases hsi:s i with
 | false=>rw [back_not hsi];exact hc
 | true =>
  obtain ⟨b,hb⟩:=o2 i c (hs i hsi) hc
  rw [(hide_some.1 hb).1] at hsi;cases hsi
end Go.AH
namespace Go.AH
variable {P:Program}
section
variable {ops:Array Oper} {draw:Bool} {rs:List Rk} {l:List Oper} {fl:List (Nat × Value)} {nt:Nat} {B:Hp} {π:Nat→Nat} {k:Nat} {hl:List (Nat × Option Blk)} {K:Fr→SH→Prop} {d:Tmp} {ty:TypeId} {pos:String} {af:Array Edge} {gd:Option (Nat × Bool)}
end
end Go.AH
namespace Go.AH
variable {P:Program} {H:Type} {enc:TypeId × Value→H} {G:Nat} {g0:Nat→Option Blk} {W:World}
def okW (l:List Nat):Prop:=∀ n∈l,n≤reachBytes
def TW (enc:TypeId × Value→H) (P:Program) (W:World) (t:TypeId) (cs:List Value):Prop :=
 ∃ fuel x,DataW.trod enc P W 0 (fun _=>true) true fuel t cs=some x∧okW (x.1.weights P t)
theorem TW.int {t:TypeId} {k:IntKind} {cs:List Value} (ht:P.underlying t=some (.int k)) (h:TW enc P W t cs):∃ n,cs=[.int k n]∧k.min≤n∧n≤k.max:=by
 obtain ⟨fuel,x,h,_⟩:=h
 cases fuel with
 | zero=>simp [DataW.trod] at h
 | succ fuel =>
  unfold DataW.trod at h
  rw [ht] at h
  split at h<;>first|cases h|skip
  all_goals simp_all
  obtain ⟨⟨h1,h2⟩,_⟩:=h
  subst h1
  simp [Lit.wf] at h2
  exact h2
theorem weightsAll_mem {e:TypeId}:∀ {l:List (DataW H)} {d:DataW H},d∈l→okW (DataW.weightsAll P e l)→okW (d.weights P e):=by
 intro l
 induction l with
 | nil=>intro d h;cases h
 | cons a l ih =>
  intro d h hw
  rw [DataW.weightsAll] at hw
  rcases List.mem_cons.1 h with rfl|h
  ·exact fun n hn=>hw n (List.mem_append_left _ hn)
  ·exact ih h fun n hn=>hw n (List.mem_append_right _ hn)
theorem TW.slice {t e:TypeId} {cs:List Value} (ht:P.underlying t=some (.slice e)) (hb:1≤P.bytesOf e) (hw0:0 < P.cellsOf e) (h:TW enc P W t cs) :
 cs=[.slice none 0 0]∨∃ (a:Addr) (len cap:Nat) (css:List (List Value)),cs=[.slice (some a) len cap]∧len≤cap∧cap≤reachBytes∧css.length=len∧(css≠[]→a.spot=none)∧∀ i c,css[i]?=some c→W.cells? 0 (a.add (i * P.cellsOf e)) (P.cellsOf e)=some c∧TW enc P W e c:=by
 obtain ⟨fuel,x,h,hw⟩:=h
 rcases Go.Deep.open_slice ht h with ⟨h0,_⟩|⟨a,len,cap,m,n,Dd,Pl,h1,_,h3,h4,h5,h6,h7⟩
 ·exact .inl h0
 ·right
  simp only [if_true] at h5
  subst h5
  subst h6
  simp only [DataW.weights,ht] at hw
  have hcap:m≤reachBytes:=by
   have:=hw _ (List.mem_cons_self ..)
   simp only [List.length_map,List.length_range] at this
   have h8:len+(m - len)=m:=by omega
   rw [h8] at this
   exact Nat.le_trans (Nat.le_mul_of_pos_right _ hb) this
  have hex:∀ i,i < len→∃ c,W.cells? 0 (a.add (i * P.cellsOf e)) (P.cellsOf e)=some c∧TW enc P W e c:=by
   intro i hi
   obtain ⟨c,q1,q2⟩:=h7 i (by omega)
   refine ⟨c,q1,n,_,q2,?_⟩
   refine weightsAll_mem (l:=(List.range len).map Dd) (List.mem_map.2 ⟨i,List.mem_range.2 hi,rfl⟩) fun n hn=>hw n ?_
   exact List.mem_cons_of_mem _ (List.mem_append_left _ hn)
  have build:∀ k,k≤len→∃ css:List (List Value),css.length=k∧∀ i c,css[i]?=some c→W.cells? 0 (a.add (i * P.cellsOf e)) (P.cellsOf e)=some c∧TW enc P W e c:=by
   intro k
   induction k with
   | zero=>intro _;exact ⟨[],rfl,fun i c h=>by simp at h⟩
   | succ k ih =>
    intro hk
    obtain ⟨css,q1,q2⟩:=ih (by omega)
    obtain ⟨c,q3⟩:=hex k (by omega)
    refine ⟨css++[c],by simp [q1],fun i c' h=>?_⟩
    by_cases hi:i < css.length
    ·rw [List.getElem?_append_left hi] at h;exact q2 i c' h
    ·rw [List.getElem?_append_right (by omega)] at h
     cases hd:i - css.length with
     | zero =>
      rw [hd] at h;simp at h
      have:i=k:=by omega
      subst this;subst h;exact q3
     | succ j=>rw [hd] at h;simp at h
  obtain ⟨css,q1,q2⟩:=build len (Nat.le_refl _)
  refine ⟨a,len,m,css,h1,h3,hcap,q1,fun hne=>?_,q2⟩
  cases css with
  | nil=>exact absurd rfl hne
  | cons c css =>
   have h8:=(q2 0 c rfl).1
   have h9:=cells_get h8
   have h10:0 < c.length:=by rw [h9.1];exact hw0
   have h11:=h9.2 0 _ (List.getElem?_eq_getElem h10)
   unfold World.cell? at h11
   have:(a.add (0 * P.cellsOf e)).add 0=a:=by simp [Addr.add]
   rw [this] at h11
   split at h11
   ·cases hs:a.spot with
    | none=>rfl
    | some s=>rw [hs] at h11;simp at h11
   ·cases h11
def fieldsOf (P:Program) (t:TypeId):Option (List (TypeId × Nat × Nat)):=match P.underlying t with
 | some (.struct fs)=>some (fs.toList.map fun f=>(f.type,f.offset,P.cellsOf f.type))
 | _=>none
theorem D.int {t:TypeId} {k:IntKind} {cs:List Value} (ht:P.underlying t=some (.int k)) (h:TW enc P W t cs):D G g0 W cs 0 (fun _ acs=>∃ n,acs=[.int k n]∧k.min≤n∧n≤k.max):=by
 obtain ⟨n,rfl,h1,h2⟩:=h.int ht
 exact (D.free (by simp)).mono (Nat.le_refl _) fun H acs _ e=>⟨n,e,h1,h2⟩
theorem D.row {t e:TypeId} {w N:Nat} {Φ:Hp→List Value→Prop} {cs:List Value} (u:UpΦ Φ) (ht:P.underlying t=some (.slice e)) (hw:P.cellsOf e=w) (hw0:0 < w) (hb:1≤P.bytesOf e) (he:∀ c,TW enc P W e c→D G g0 W c N Φ) (h:TW enc P W t cs):D G g0 W cs (reachBytes * N+1) (RowΦ w reachBytes Φ):=by
 subst hw
 rcases h.slice ht hb hw0 with rfl|⟨a,len,cap,css,rfl,h1,h2,h3,h4,h5⟩
 ·exact D.sliceNil.mono (Nat.zero_le _) fun _ _ _ h=>h
 ·refine (D.slice u hw0 h3 (fun c hc=>?_) (fun i c hc=>(h5 i c hc).1) h1 (Nat.lt_of_le_of_lt h2 (by decide)) (Nat.le_trans h1 h2) h4).mono (Nat.succ_le_succ (Nat.mul_le_mul_right _ (Nat.le_trans h1 h2))) fun _ _ _ h=>h
  obtain ⟨i,hi⟩:=List.mem_iff_getElem?.1 hc
  exact he c (h5 i c hi).2
def SegD (G:Nat) (g0:Nat→Option Blk) (W:World) (cs:List Value):Nat→List (Nat × Nat × (Hp→List Value→Prop))→Prop
 | off,[]=>cs.length=off
 | off,(w,N,Φ)::l=>UpΦ Φ∧D G g0 W ((cs.drop off).take w) N Φ∧SegD G g0 W cs (off+w) l
def SegΦ:List (Nat × Nat × (Hp→List Value→Prop))→Hp→List Value→Prop
 | [],_,acs=>acs=[]
 | (_,_,Φ)::l,H,acs=>∃ a1 a2,acs=a1++a2∧Φ H a1∧SegΦ l H a2
def segN:List (Nat × Nat × (Hp→List Value→Prop))→Nat
 | []=>0
 | (_,N,_)::l=>N+segN l
end Go.AH
