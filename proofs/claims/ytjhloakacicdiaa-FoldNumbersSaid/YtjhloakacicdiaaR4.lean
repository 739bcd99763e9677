/-
  What the functions that the law reaches compute,told by plain data;it holds of programs that pass the check of right form and are light.
-/
import Derived.Test.YtjhloakacicdiaaR1
import Derived.Test.YtjhloakacicdiaaR2
import Derived.Test.YtjhloakacicdiaaR3
import Derived.Test.YtjhloakacicdiaaS2
set_option linter.unusedVariables false
set_option linter.unusedSimpArgs false
namespace Go.AH
variable {P:Program}
section
variable {ops:Array Oper} {draw:Bool} {rs:List Rk} {l:List Oper} {fl:List (Nat × Value)} {nt:Nat} {h:SH} {K:Fr→SH→Prop} {d:Tmp} {ty:TypeId} {pos:String} {af:Array Edge} {gd:Option (Nat × Bool)}
theorem RS.nePtrNil {t e yt:TypeId} {x y:Operand} {A:Option Addr} [hu:TyU P t (.pointer e)] (hw:wantB ops ⟨some d,.binOp .neq t x y yt,ty,pos,af,gd⟩ ⟨fl,nt⟩=some true) (hd:Nat.blt d nt=true)
    (hx:Fr.ev ⟨fl,nt⟩ x=some (.pointer A)) (hy:Fr.ev ⟨fl,nt⟩ y=some (.pointer none))
    (hk:RS P ops draw (recP h.k false [] (some [])::rs) l ⟨(d,.bool (!A.isNone))::fl,nt⟩ h K):RS P ops draw rs (⟨some d,.binOp .neq t x y yt,ty,pos,af,gd⟩::l) ⟨fl,nt⟩ h K :=
  RS.free hw hd (fun a g H=>by
    have:=TX.eqPtrNil (P:=P) (o:=⟨some d,.binOp .neq t x y yt,ty,pos,af,gd⟩) (ev:=a.eval) (h:=H) (op:=.neq) rfl rfl hu.eq (g.ev hx) (g.ev hy)
    simpa using this) (by simp) hk
end
end Go.AH
namespace Go.Proofs.Ytjhloakacicdiaa
open Go.AH
attribute [local irreducible] W RS
theorem R_tf (n:Int) (h:Hp):TF Try.prog 20 ⟨[.int .i64 n]⟩ h (.agg ⟨[.int .i64 n,.int .i64 0]⟩) h:=by
  refine TF.still (fn:=Try.f20) (c:=(Try.f20.body.getD .skip)) Try.func20 (by kernel_rfl) Try.ntmps20 (by kernel_rfl) (by simp) ?_
  conv=>arg 2;whnf
  repeat (first|((with_reducible apply RS.move);iterate 3 exact rfl)|((with_reducible apply RS.store);(iterate 5 exact rfl);exact Nat.le_of_ble_eq_true rfl;iterate 3 exact rfl)|((with_reducible apply RS.alloc);iterate 2 exact rfl)|((with_reducible apply RS.build);iterate 4 exact rfl)|((with_reducible apply RS.nil);exact mixed;kernel_rfl)|(with_reducible first|apply W.seq|apply W.ret|apply thenK_n)|((with_reducible apply W.reg);kernel_rfl))
  exact endsK_ret _ (.cons (.cellN rfl rfl rfl (Nat.le_of_ble_eq_true rfl)) .nil) ⟨rfl,rfl⟩
def fitT:TermS:=⟨3,0,⟨0,0⟩,⟨0,0⟩,0,0⟩
def fitB:List BlockS:=[⟨[⟨1,1,⟨-1,5⟩,⟨0,0⟩,0,false,false,0,0,[]⟩],fitT⟩]
def fitB1:List BlockS:=[⟨[],fitT⟩]
def fitF:FuncS:=⟨⟨#[109,97,105,110]⟩,0,0,2,[],fitB⟩
def fit14:ProgS:=⟨[fitF],[],0,0⟩
theorem slat_one {α:Type} {h:Hp} {b w:Nat} {cs:List Value} {e:TypeId} {x:α} {R:List Value→α→Prop} (hm:h.m b=some ⟨⟨cs⟩,e⟩) (hl:w≤cs.length) (hR:R (takeV 0 w cs) x):SlAt h (some ⟨b,0,none⟩) w [x] R:=by
  refine ⟨fun i y hy=>?_⟩
  cases i with
  | zero=>simp at hy;subst hy;exact ⟨b,0,cs,e,rfl,hm,by omega,by simpa using hR⟩
  | succ i=>simp at hy
end Go.Proofs.Ytjhloakacicdiaa
namespace Go.Proofs.Ytjhloakacicdiaa
open Go.AH
attribute [local irreducible] W RS
set_option maxRecDepth 100000 in
theorem Short_tf (A1:Option Addr) (n1 c1:Nat) (A2:Option Addr) (n2 c2:Nat) (h:Hp):TF Try.prog 15 ⟨[.agg ⟨[.slice A1 n1 c1,.slice A2 n2 c2]⟩]⟩ h (.bool (decide (n1 < 3000) && decide (n2 < 3000))) h:=by
  refine TF.dom fun hd=>?_
  refine TF.still (fn:=Try.f15) (c:=(Try.f15.body.getD .skip)) Try.func15 (by kernel_rfl) Try.ntmps15 (by kernel_rfl) (by simp) ?_
  conv=>arg 2;whnf
  repeat' (first|((with_reducible first|apply RS.move|apply RS.assign|apply RS.lenSl|apply RS.fieldAddr|apply RS.box);iterate 3 exact rfl)|((with_reducible apply RS.pickT);iterate 4 exact rfl)|((with_reducible apply RS.pickF);iterate 4 exact rfl)|((with_reducible apply RS.cmpC);iterate 5 exact rfl)|((with_reducible apply RS.load1);iterate 6 exact rfl)|((with_reducible apply RS.skip);iterate 2 exact rfl)|((with_reducible apply RS.nil);exact mixed;kernel_rfl)|(with_reducible first|apply W.seq|apply W.ret|apply thenK_n)|((with_reducible apply W.reg);kernel_rfl)|(((with_reducible apply RS.splitD);iterate 2 exact rfl)<;>intro _)|((((with_reducible apply RS.splitG);iterate 2 exact rfl)<;>intro _)<;>(fail_if_success cases ‹true=false›)<;>(fail_if_success cases ‹false=true›))|(((with_reducible apply W.condD);exact rfl)<;>intro _)|((((with_reducible apply W.cond);exact rfl)<;>intro _)<;>(fail_if_success cases ‹true=false›)<;>(fail_if_success cases ‹false=true›)))
  · refine endsK_ret _ (.cons (.tmp rfl) .nil) ⟨rfl,?_⟩
    rw [decide_eq_true (by omega:n1 < 3000),Bool.true_and]
    show Value.bool (decide ((n2:Int) < 3000))=_
    congr 1;exact decide_eq_decide.2 (by omega)
  · refine endsK_ret _ (.cons (.tmp rfl) .nil) ⟨rfl,?_⟩
    rw [decide_eq_false (by omega:¬ n1 < 3000)];rfl
end Go.Proofs.Ytjhloakacicdiaa
namespace Go.Proofs.Ytjhloakacicdiaa
open Go.AH
attribute [local irreducible] W RS
theorem light_args {p:ProgS} (hl:lightP p=true):∀ f∈p.funcs,∀ b∈f.blocks,∀ x∈b.ins,x.args.length≤1000000000:=by
  intro f hf b hb x hx
  unfold lightP at hl
  simp only [Bool.and_eq_true,decide_eq_true_eq] at hl
  obtain ⟨_,h6⟩:=hl
  obtain ⟨m,hm⟩:=Option.isSome_iff_exists.1 h6
  obtain ⟨_,_,_,_,l6⟩:=lightF_le hm f hf
  have:=l6 b hb x hx
  omega
def shortN (n1 n2:Nat):Bool:=decide (n1 < 3000) && decide (n2 < 3000)
set_option maxRecDepth 100000 in
theorem small_tf (p:ProgS) (hok:p.ok) (h:Hp) (P1:Option Addr) (d1:Nat) (P2:Option Addr) (d2:Nat) (hfs:SlAt h P1 6 p.funcs (funcR h)) (hgs:SlAt h P2 4 p.globals (globR h)) (A1:Option Addr) (k1 c1:Nat) (A2:Option Addr) (k2 c2:Nat) (A3:Option Addr) (k3 c3:Nat) (A4:Option Addr) (k4 c4:Nat) :
    TF Try.prog 8 ⟨[.agg ⟨progC p P1 d1 P2 d2⟩,.agg ⟨[.slice A1 k1 c1,.slice A2 k2 c2]⟩,.agg ⟨[.slice A3 k3 c3,.slice A4 k4 c4]⟩]⟩ h (.bool (lightP p && rightP p && shortN k1 k2 && shortN k3 k4)) h:=by
  refine TF.exact (fn:=Try.f8) (c:=(Try.f8.body.getD .skip)) Try.func8 (by kernel_rfl) Try.ntmps8 (by kernel_rfl) (fun s0=>⟨Nat.le_refl _,by simp,fun i b hb=>⟨s0.dom i b hb,s0.bd i b hb⟩⟩) fun π s0=>?_
  conv=>arg 2;whnf
  ((with_reducible apply W.seq);repeat (first|((with_reducible first|apply RS.assign|apply RS.box);iterate 3 exact rfl)|((with_reducible apply RS.nil);exact mixed;kernel_rfl)|((with_reducible apply W.reg);kernel_rfl)|(with_reducible apply thenK_n)))
  refine W.absorbX fun B0 π0 a0=>?_
  have m0:B0.m (π 0)=some ⟨⟨progC p P1 d1 P2 d2⟩,25⟩:=a0.loc 0 (by decide:(0:Nat) < 3)
  have m1:B0.m (π 1)=some ⟨⟨[.slice A1 k1 c1,.slice A2 k2 c2]⟩,30⟩:=a0.loc 1 (by decide:(1:Nat) < 3)
  have m2:B0.m (π 2)=some ⟨⟨[.slice A3 k3 c3,.slice A4 k4 c4]⟩,30⟩:=a0.loc 2 (by decide:(2:Nat) < 3)
  have n0:=a0.dom _ _ m0
  have n1':=a0.dom _ _ m1
  have n2':=a0.dom _ _ m2
  replace hfs:=hfs.mono a0.up fun _ _ h=>funcR_mono a0.up h
  replace hgs:=hgs.mono a0.up fun _ _ h=>globR_mono a0.up h
  have hargs:=@light_args p
  obtain ⟨s1,hs1⟩:∃ s,(decide (k1 < 3000) && decide (k2 < 3000))=s:=⟨_,rfl⟩
  obtain ⟨s2,hs2⟩:∃ s,(decide (k3 < 3000) && decide (k4 < 3000))=s:=⟨_,rfl⟩
  unfold shortN
  rw [hs1,hs2]
  have hS1:∀ B',TF Try.prog 15 ⟨[.agg ⟨[.slice A1 k1 c1,.slice A2 k2 c2]⟩]⟩ B' (.bool s1) B':=by intro B';rw [← hs1];exact Short_tf A1 k1 c1 A2 k2 c2 B'
  have hS2:∀ B',TF Try.prog 15 ⟨[.agg ⟨[.slice A3 k3 c3,.slice A4 k4 c4]⟩]⟩ B' (.bool s2) B':=by intro B';rw [← hs2];exact Short_tf A3 k3 c3 A4 k4 c4 B'
  clear hs1 hs2
  generalize hlb:lightP p=lb at *
  cases lb with
  | false =>
    repeat (first|((with_reducible apply RS.loadNB);(iterate 3 exact rfl);exact m0;exact n0;exact Nat.le_of_ble_eq_true rfl;exact (show takeV 0 4 (progC p P1 d1 P2 d2)=progC p P1 d1 P2 d2 from rfl))|((with_reducible apply (RS.callA (g0:=14)));(iterate 3 exact rfl);exact fun B' hB'=>hlb ▸ Light_tf p hok B' P1 d1 P2 d2 (hfs.mono hB'.up fun _ _ h=>funcR_mono hB'.up h) (hgs.mono hB'.up fun _ _ h=>globR_mono hB'.up h))|((with_reducible first|apply RS.move|apply RS.assign);iterate 3 exact rfl)|((with_reducible apply RS.pickF);iterate 4 exact rfl)|((with_reducible apply RS.skip);iterate 2 exact rfl)|((with_reducible apply RS.nil);exact mixed;kernel_rfl)|(with_reducible first|apply W.seq|apply W.ret|apply thenK_n)|((with_reducible apply W.reg);kernel_rfl))
    exact endsK_ret _ (.cons (.tmp rfl) .nil) fun B' a=>⟨rfl,fun j x hj=>a.up _ _ (a0.up _ _ hj)⟩
  | true =>
    replace hargs:=hargs rfl
    generalize hrb:rightP p=rb at *
    cases rb with
    | false =>
      have hrv:(if rightP p=true then (0:Int) else 50)=50:=by rw [hrb];rfl
      repeat (first|((with_reducible apply RS.loadNB);(iterate 3 exact rfl);exact m0;exact n0;exact Nat.le_of_ble_eq_true rfl;exact (show takeV 0 4 (progC p P1 d1 P2 d2)=progC p P1 d1 P2 d2 from rfl))|((with_reducible apply (RS.callA (g0:=14)));(iterate 3 exact rfl);exact fun B' hB'=>hlb ▸ Light_tf p hok B' P1 d1 P2 d2 (hfs.mono hB'.up fun _ _ h=>funcR_mono hB'.up h) (hgs.mono hB'.up fun _ _ h=>globR_mono hB'.up h))|((with_reducible apply (RS.callA (g0:=26)));(iterate 3 exact rfl);exact fun B' hB'=>hrv ▸ Right_tf p hok hargs (π 0) 25 P1 d1 P2 d2 B' ⟨hB'.up _ _ m0,hfs.mono hB'.up fun _ _ h=>funcR_mono hB'.up h,hgs.mono hB'.up fun _ _ h=>globR_mono hB'.up h⟩)|((with_reducible first|apply RS.move|apply RS.assign);iterate 3 exact rfl)|((with_reducible apply RS.pickT);iterate 4 exact rfl)|((with_reducible apply RS.pickF);iterate 4 exact rfl)|((with_reducible apply RS.cmpF);(iterate 4 exact rfl);(simp only [cmpN];omega))|((with_reducible apply RS.skip);iterate 2 exact rfl)|((with_reducible apply RS.nil);exact mixed;kernel_rfl)|(with_reducible first|apply W.seq|apply W.ret|apply thenK_n)|((with_reducible apply W.reg);kernel_rfl))
      exact endsK_ret _ (.cons (.tmp rfl) .nil) fun B' a=>⟨rfl,fun j x hj=>a.up _ _ (a0.up _ _ hj)⟩
    | true =>
      have hrv:(if rightP p=true then (0:Int) else 50)=0:=by rw [hrb];rfl
      cases s1 with
      | false =>
        repeat (first|((with_reducible apply RS.loadNB);(iterate 3 exact rfl);first|exact m0;exact n0;exact Nat.le_of_ble_eq_true rfl;exact (show takeV 0 4 (progC p P1 d1 P2 d2)=progC p P1 d1 P2 d2 from rfl)|exact m1;exact n1';exact Nat.le_of_ble_eq_true rfl;exact (show takeV 0 2 [Value.slice A1 k1 c1,.slice A2 k2 c2]=[Value.slice A1 k1 c1,.slice A2 k2 c2] from rfl))|((with_reducible apply (RS.callA (g0:=14)));(iterate 3 exact rfl);exact fun B' hB'=>hlb ▸ Light_tf p hok B' P1 d1 P2 d2 (hfs.mono hB'.up fun _ _ h=>funcR_mono hB'.up h) (hgs.mono hB'.up fun _ _ h=>globR_mono hB'.up h))|((with_reducible apply (RS.callA (g0:=26)));(iterate 3 exact rfl);exact fun B' hB'=>hrv ▸ Right_tf p hok hargs (π 0) 25 P1 d1 P2 d2 B' ⟨hB'.up _ _ m0,hfs.mono hB'.up fun _ _ h=>funcR_mono hB'.up h,hgs.mono hB'.up fun _ _ h=>globR_mono hB'.up h⟩)|((with_reducible apply (RS.callA (g0:=15)));(iterate 3 exact rfl);exact fun B' hB'=>hS1 B')|((with_reducible first|apply RS.move|apply RS.assign);iterate 3 exact rfl)|((with_reducible apply RS.pickT);iterate 4 exact rfl)|((with_reducible apply RS.pickF);iterate 4 exact rfl)|((with_reducible apply RS.cmpC);iterate 5 exact rfl)|((with_reducible apply RS.skip);iterate 2 exact rfl)|((with_reducible apply RS.nil);exact mixed;kernel_rfl)|(with_reducible first|apply W.seq|apply W.ret|apply thenK_n)|((with_reducible apply W.reg);kernel_rfl))
        exact endsK_ret _ (.cons (.tmp rfl) .nil) fun B' a=>⟨rfl,fun j x hj=>a.up _ _ (a0.up _ _ hj)⟩
      | true =>
        cases s2 with
        | false =>
          repeat (first|((with_reducible apply RS.loadNB);(iterate 3 exact rfl);first|exact m0;exact n0;exact Nat.le_of_ble_eq_true rfl;exact (show takeV 0 4 (progC p P1 d1 P2 d2)=progC p P1 d1 P2 d2 from rfl)|exact m1;exact n1';exact Nat.le_of_ble_eq_true rfl;exact (show takeV 0 2 [Value.slice A1 k1 c1,.slice A2 k2 c2]=[Value.slice A1 k1 c1,.slice A2 k2 c2] from rfl)|exact m2;exact n2';exact Nat.le_of_ble_eq_true rfl;exact (show takeV 0 2 [Value.slice A3 k3 c3,.slice A4 k4 c4]=[Value.slice A3 k3 c3,.slice A4 k4 c4] from rfl))|((with_reducible apply (RS.callA (g0:=14)));(iterate 3 exact rfl);exact fun B' hB'=>hlb ▸ Light_tf p hok B' P1 d1 P2 d2 (hfs.mono hB'.up fun _ _ h=>funcR_mono hB'.up h) (hgs.mono hB'.up fun _ _ h=>globR_mono hB'.up h))|((with_reducible apply (RS.callA (g0:=26)));(iterate 3 exact rfl);exact fun B' hB'=>hrv ▸ Right_tf p hok hargs (π 0) 25 P1 d1 P2 d2 B' ⟨hB'.up _ _ m0,hfs.mono hB'.up fun _ _ h=>funcR_mono hB'.up h,hgs.mono hB'.up fun _ _ h=>globR_mono hB'.up h⟩)|((with_reducible apply (RS.callA (g0:=15)));(iterate 3 exact rfl);first|exact fun B' hB'=>hS1 B'|exact fun B' hB'=>hS2 B')|((with_reducible first|apply RS.move|apply RS.assign);iterate 3 exact rfl)|((with_reducible apply RS.pickT);iterate 4 exact rfl)|((with_reducible apply RS.cmpC);iterate 5 exact rfl)|((with_reducible apply RS.nil);exact mixed;kernel_rfl)|(with_reducible first|apply W.seq|apply W.ret|apply thenK_n)|((with_reducible apply W.reg);kernel_rfl))
          exact endsK_ret _ (.cons (.tmp rfl) .nil) fun B' a=>⟨rfl,fun j x hj=>a.up _ _ (a0.up _ _ hj)⟩
        | true =>
          repeat (first|((with_reducible apply RS.loadNB);(iterate 3 exact rfl);first|exact m0;exact n0;exact Nat.le_of_ble_eq_true rfl;exact (show takeV 0 4 (progC p P1 d1 P2 d2)=progC p P1 d1 P2 d2 from rfl)|exact m1;exact n1';exact Nat.le_of_ble_eq_true rfl;exact (show takeV 0 2 [Value.slice A1 k1 c1,.slice A2 k2 c2]=[Value.slice A1 k1 c1,.slice A2 k2 c2] from rfl)|exact m2;exact n2';exact Nat.le_of_ble_eq_true rfl;exact (show takeV 0 2 [Value.slice A3 k3 c3,.slice A4 k4 c4]=[Value.slice A3 k3 c3,.slice A4 k4 c4] from rfl))|((with_reducible apply (RS.callA (g0:=14)));(iterate 3 exact rfl);exact fun B' hB'=>hlb ▸ Light_tf p hok B' P1 d1 P2 d2 (hfs.mono hB'.up fun _ _ h=>funcR_mono hB'.up h) (hgs.mono hB'.up fun _ _ h=>globR_mono hB'.up h))|((with_reducible apply (RS.callA (g0:=26)));(iterate 3 exact rfl);exact fun B' hB'=>hrv ▸ Right_tf p hok hargs (π 0) 25 P1 d1 P2 d2 B' ⟨hB'.up _ _ m0,hfs.mono hB'.up fun _ _ h=>funcR_mono hB'.up h,hgs.mono hB'.up fun _ _ h=>globR_mono hB'.up h⟩)|((with_reducible apply (RS.callA (g0:=15)));(iterate 3 exact rfl);first|exact fun B' hB'=>hS1 B'|exact fun B' hB'=>hS2 B')|((with_reducible first|apply RS.move|apply RS.assign);iterate 3 exact rfl)|((with_reducible apply RS.pickT);iterate 4 exact rfl)|((with_reducible apply RS.cmpC);iterate 5 exact rfl)|((with_reducible apply RS.nil);exact mixed;kernel_rfl)|(with_reducible first|apply W.seq|apply W.ret|apply thenK_n)|((with_reducible apply W.reg);kernel_rfl))
          exact endsK_ret _ (.cons (.tmp rfl) .nil) fun B' a=>⟨rfl,fun j x hj=>a.up _ _ (a0.up _ _ hj)⟩
end Go.Proofs.Ytjhloakacicdiaa
namespace Go.Proofs.Ytjhloakacicdiaa
open Go.AH
attribute [local irreducible] W RS
structure WaysOK (bl w:List BlockS):Prop where
  pos:0 < w.length
  le:w.length≤bl.length
  ok:∀ (i:Nat) (b:BlockS),w[i]?=some b→hasS (reachedS w) i=true∧¬ (b.term.kind=2∧b.term.goto=b.term.els)
  tgt:tgtOK w
end Go.Proofs.Ytjhloakacicdiaa
namespace Go.Proofs.Ytjhloakacicdiaa
open Go.AH
inductive Reach (bl:List BlockS):Int→Prop
  | zero:Reach bl 0
  | step {k k':Int} (h:Reach bl k) (hn:k'∈nextAt bl k):Reach bl k'
theorem nextAt_in {bl:List BlockS} (ht:tgtOK bl) {k k':Int} (h:k'∈nextAt bl k):0≤k'∧k' < bl.length:=by
  unfold nextAt at h
  split at h
  · rename_i b hb
    exact ht b (List.mem_of_getElem? hb) k' h
  · cases h
theorem Reach.in_ {bl:List BlockS} (hpos:0 < bl.length) (ht:tgtOK bl) {k:Int} (h:Reach bl k):0≤k∧k < bl.length:=by
  cases h with
  | zero=>omega
  | step _ hn=>exact nextAt_in ht hn
theorem reachPush_set {n:Nat} {k:Int} (hk:0≤k):∀ (l:List Int) (s:SetS) (w:List Int),n≤s.length * 64→(∀ x∈l,0≤x∧x < n)→(hasS (reachPush s w l).1 k=true↔hasS s k=true∨k∈l):=by
  intro l
  induction l with
  | nil=>intro s w _ _;simp [reachPush]
  | cons a l ih =>
    intro s w hs hl
    have ha:=hl a (by simp)
    unfold reachPush
    split
    · rename_i h
      rw [ih s w hs fun x hx=>hl x (by simp [hx])]
      constructor
      · rintro (h1|h1)
        · exact .inl h1
        · exact .inr (by simp [h1])
      · rintro (h1|h1)
        · exact .inl h1
        · rcases List.mem_cons.1 h1 with e|e
          · subst e;exact .inl h
          · exact .inr e
    · rw [ih (putS s a) (a::w) (by rw [putS_length];exact hs) fun x hx=>hl x (by simp [hx]),hasS_put]
      have:a.toNat / 64 < s.length:=by omega
      simp only [Bool.or_eq_true,Bool.and_eq_true,decide_eq_true_eq,List.mem_cons]
      constructor
      · rintro ((h1|⟨⟨h1,_⟩,_⟩)|h1)
        · exact .inl h1
        · exact .inr (.inl h1.symm)
        · exact .inr (.inr h1)
      · rintro (h1|h1|h1)
        · exact .inl (.inl h1)
        · subst h1
          exact .inl (.inr ⟨⟨rfl,hk⟩,this⟩)
        · exact .inr h1
theorem reachPush_work {n:Nat}:∀ (l:List Int) (s:SetS) (w:List Int),n≤s.length * 64→(∀ x∈l,0≤x∧x < n)→∀ x,(x∈(reachPush s w l).2→x∈w∨x∈l)∧(x∈w→x∈(reachPush s w l).2)∧(x∈l→hasS s x=false→x∈(reachPush s w l).2):=by
  intro l
  induction l with
  | nil=>intro s w _ _ x;exact ⟨fun h=>.inl h,fun h=>h,fun h=>by cases h⟩
  | cons a l ih =>
    intro s w hs hl x
    have ha:=hl a (by simp)
    unfold reachPush
    split
    · rename_i h
      obtain ⟨i1,i2,i3⟩:=ih s w hs (fun x hx=>hl x (by simp [hx])) x
      refine ⟨fun h1=>?_,i2,fun h1 h2=>?_⟩
      · rcases i1 h1 with h|h
        · exact .inl h
        · exact .inr (by simp [h])
      · rcases List.mem_cons.1 h1 with e|e
        · subst e;rw [h] at h2;cases h2
        · exact i3 e h2
    · obtain ⟨i1,i2,i3⟩:=ih (putS s a) (a::w) (by rw [putS_length];exact hs) (fun x hx=>hl x (by simp [hx])) x
      refine ⟨fun h1=>?_,fun h1=>i2 (by simp [h1]),fun h1 h2=>?_⟩
      · rcases i1 h1 with h|h
        · rcases List.mem_cons.1 h with e|e
          · subst e;exact .inr (by simp)
          · exact .inl e
        · exact .inr (by simp [h])
      · by_cases e:x=a
        · subst e;exact i2 (by simp)
        · rcases List.mem_cons.1 h1 with e1|e1
          · exact absurd e1 e
          · refine i3 e1 ?_
            rw [hasS_put,h2]
            simp
            intro e2
            exact absurd e2.symm e
theorem reachPush_lack {n:Nat}:∀ (l:List Int) (s:SetS) (w:List Int),n≤s.length * 64→(∀ x∈l,0≤x∧x < n)→lackS n (reachPush s w l).1+(reachPush s w l).2.length=lackS n s+w.length:=by
  intro l
  induction l with
  | nil=>intro s w _ _;rfl
  | cons a l ih =>
    intro s w hs hl
    have ha:=hl a (by simp)
    unfold reachPush
    split
    · exact ih s w hs fun x hx=>hl x (by simp [hx])
    · rename_i h
      rw [ih (putS s a) (a::w) (by rw [putS_length];exact hs) fun x hx=>hl x (by simp [hx])]
      have:=lackS_put (n:=n) (s:=s) (k:=a) ha.1 (by omega) (by simpa using h) (by omega)
      simp only [List.length_cons]
      omega
structure ReachV (bl:List BlockS) (s:SetS) (w:List Int):Prop where
  len:bl.length≤s.length * 64
  sound:∀ k:Int,0≤k→k < bl.length→hasS s k=true→Reach bl k
  work:∀ x∈w,0≤x∧x < bl.length∧hasS s x=true
  done:∀ k:Int,0≤k→k < bl.length→hasS s k=true→k∈w∨∀ k'∈nextAt bl k,hasS s k'=true
theorem reachGo_ok {bl:List BlockS} (ht:tgtOK bl):∀ (m:Nat) (s:SetS) (w:List Int),ReachV bl s w→lackS bl.length s+w.length≤m→ReachV bl (reachGo bl m s w) []:=by
  intro m
  induction m with
  | zero =>
    intro s w h hm
    have:w=[]:=List.length_eq_zero_iff.1 (by omega)
    subst this
    exact h
  | succ m ih =>
    intro s w h hm
    cases w with
    | nil=>exact h
    | cons n w =>
      rw [reachGo]
      have hl:∀ x∈nextAt bl n,0≤x∧x < bl.length:=fun x hx=>nextAt_in ht hx
      obtain ⟨n1,n2,n3⟩:=h.work n (by simp)
      have hlk:=reachPush_lack (nextAt bl n) s w h.len hl
      refine ih _ _ ⟨by rw [reachPush_len];exact h.len,fun k k0 k1 hk=>?_,fun x hx=>?_,fun k k0 k1 hk=>?_⟩ (by rw [hlk];simp only [List.length_cons] at hm;omega)
      · rcases (reachPush_set k0 (nextAt bl n) s w h.len hl).1 hk with h1|h1
        · exact h.sound k k0 k1 h1
        · exact .step (h.sound n n1 n2 n3) h1
      · rcases (reachPush_work (nextAt bl n) s w h.len hl x).1 hx with h1|h1
        · obtain ⟨a1,a2,a3⟩:=h.work x (by simp [h1])
          exact ⟨a1,a2,reachPush_has _ _ _ a3⟩
        · obtain ⟨a1,a2⟩:=hl x h1
          exact ⟨a1,a2,(reachPush_set a1 (nextAt bl n) s w h.len hl).2 (.inr h1)⟩
      · by_cases hks:hasS s k=true
        · rcases h.done k k0 k1 hks with h1|h1
          · rcases List.mem_cons.1 h1 with e|e
            · subst e
              exact .inr fun k' hk'=>(reachPush_set (hl k' hk').1 _ s w h.len hl).2 (.inr hk')
            · exact .inl ((reachPush_work (nextAt bl n) s w h.len hl k).2.1 e)
          · exact .inr fun k' hk'=>reachPush_has _ _ _ (h1 k' hk')
        · rcases (reachPush_set k0 (nextAt bl n) s w h.len hl).1 hk with h1|h1
          · exact absurd h1 hks
          · exact .inl ((reachPush_work (nextAt bl n) s w h.len hl k).2.2 h1 (by simpa using hks))
theorem lackS_le (n:Nat) (s:SetS):lackS n s≤n:=by
  unfold lackS
  have:=List.length_filter_le (fun i:Nat=>!hasS s (i:Int)) (List.range n)
  simpa using this
theorem reached_ok {bl:List BlockS} (hpos:0 < bl.length) (ht:tgtOK bl):ReachV bl (reachedS bl) []:=by
  have he:(emptyS (bl.length:Int)).length=(bl.length+63) / 64:=by rw [emptyS_length];omega
  have h0:∀ k:Int,hasS (putS (emptyS (bl.length:Int)) 0) k=true→k=0:=by
    intro k hk
    rw [hasS_put,hasS_empty] at hk
    simp at hk
    exact hk.1.1.symm
  unfold reachedS
  rw [if_neg (by omega)]
  refine reachGo_ok ht _ _ _ ⟨by rw [putS_length,he];omega,fun k _ _ hk=>?_,fun x hx=>?_,fun k _ _ hk=>?_⟩ (by have:=lackS_le bl.length (putS (emptyS (bl.length:Int)) 0);simp only [List.length_singleton];omega)
  · rw [h0 k hk];exact .zero
  · simp only [List.mem_singleton] at hx
    subst hx
    refine ⟨by omega,by omega,?_⟩
    rw [hasS_put,he]
    simp
    exact .inr (by omega)
  · rw [h0 k hk];exact .inl (by simp)
theorem reached_iff {bl:List BlockS} (hpos:0 < bl.length) (ht:tgtOK bl) {k:Int} (h0:0≤k) (h1:k < bl.length):hasS (reachedS bl) k=true↔Reach bl k:=by
  have hv:=reached_ok hpos ht
  refine ⟨hv.sound k h0 h1,fun h=>?_⟩
  clear h0 h1
  induction h with
  | zero=>exact reached_zero hpos
  | step h hn ih =>
    have hin:=h.in_ hpos ht
    rcases hv.done _ hin.1 hin.2 ih with h1|h1
    · cases h1
    · exact h1 _ hn
def NoEq (b:BlockS):Prop:=¬ (b.term.kind=2∧b.term.goto=b.term.els)
structure MeltV (n:Nat) (bl:List BlockS):Prop where
  ne:∀ b∈bl,NoEq b
  tgt:tgtOK bl
  len:bl.length=n
def posL (r:SetS) (bl:List BlockS) (k:Nat):Nat:=(keptL r 0 (bl.take k)).length
end Go.Proofs.Ytjhloakacicdiaa
namespace Go.Proofs.Ytjhloakacicdiaa
open Go.AH
structure FactS where
  kind:Int
  n:Int
def anyF:FactS:=⟨2,0⟩
def noF:FactS:=⟨0,0⟩
def numF (n:Int):FactS:=⟨1,n⟩
def meetF (a b:FactS):FactS:=if a.kind=0 then b else if b.kind=0 then a else if a.kind=1∧b.kind=1∧a.n=b.n then a else anyF
def ofF (l:List FactS) (a:ArgS):FactS:=if a.reg < 0 then numF a.num else (l[a.reg.toNat]?).getD anyF
def twoF (op:Int) (a b:FactS):FactS :=
  if a.kind=1∧b.kind=1 then (if (reckonS op a.n b.n).2=true then numF (reckonS op a.n b.n).1 else anyF)
  else if a.kind≠2∧b.kind≠2 then noF else anyF
def resultF (l:List FactS) (x:InsS):FactS :=
  if x.op=1∨x.op=2 then ofF l x.a
  else if x.op=22∧(ofF l x.a).kind=1 then numF (widenS (ofF l x.a).n x.size x.signed)
  else if x.op=22∧(ofF l x.a).kind=0 then noF
  else if twoS x.op=true then twoF x.op (ofF l x.a) (ofF l x.b)
  else anyF
def stepF (l:List FactS) (x:InsS):List FactS:=if 0≤x.dst then l.set x.dst.toNat (resultF l x) else l
def nextF (t:TermS) (l:List FactS):List Int :=
  if t.kind≠2 then nextS t
  else if (ofF l t.a).kind≠1∨(ofF l t.b).kind≠1 then nextS t
  else if holdsS t.op (ofF l t.a).n (ofF l t.b).n=true then [t.goto] else [t.els]
def meetL:List FactS→List FactS→List FactS
  | a::l,b::m=>meetF a b::meetL l m
  | l,_=>l
def sameF (a b:FactS):Bool:=decide (a.kind=b.kind) && decide (a.n=b.n)
def sameL:List FactS→List FactS→Bool
  | a::l,b::m=>sameF a b && sameL l m
  | _,_=>true
structure SolS where
  ins:List (List FactS)
  seen:List Bool
  work:List Int
def reachF (l:List FactS) (s:SolS) (k:Int):SolS :=
  if s.seen[k.toNat]?.getD false=true then
    if sameL (meetL (s.ins[k.toNat]?.getD []) l) (s.ins[k.toNat]?.getD [])=true then s
    else ⟨s.ins.set k.toNat (meetL (s.ins[k.toNat]?.getD []) l),s.seen,k::s.work⟩
  else ⟨s.ins.set k.toNat l,s.seen.set k.toNat true,k::s.work⟩
def outF (bl:List BlockS) (s:SolS) (k:Int):List FactS:=match bl[k.toNat]? with
  | some b=>b.ins.foldl stepF (s.ins[k.toNat]?.getD [])
  | none=>[]
def roundF (bl:List BlockS) (s:SolS) (k:Int):SolS:=match bl[k.toNat]? with
  | some b=>(nextF b.term (outF bl s k)).foldl (reachF (outF bl s k)) s
  | none=>s
inductive SolRun (bl:List BlockS):SolS→SolS→Prop
  | stop {s:SolS} (h:s.work=[]):SolRun bl s s
  | go {s s':SolS} {k:Int} {w:List Int} (h:s.work=k::w) (hr:SolRun bl (roundF bl ⟨s.ins,s.seen,w⟩ k) s'):SolRun bl s s'
theorem SolRun.det {bl:List BlockS} {a b c:SolS} (h1:SolRun bl a b) (h2:SolRun bl a c):b=c:=by
  induction h1 with
  | stop h =>
    cases h2 with
    | stop _=>rfl
    | go h' _=>rw [h] at h';cases h'
  | go h _ ih =>
    cases h2 with
    | stop h'=>rw [h] at h';cases h'
    | go h' hr =>
      rw [h] at h'
      injection h' with e1 e2
      subst e1;subst e2
      exact ih hr
def sol0 (n:Nat) (regs:Int):SolS:=reachF (List.replicate regs.toNat anyF) ⟨List.replicate n [],List.replicate n false,[]⟩ 0
def argF (l:List FactS) (a:ArgS):ArgS:=if (ofF l a).kind=1 then ⟨-1,(ofF l a).n⟩ else a
def plainI (op dst:Int) (a:ArgS):InsS:=⟨op,dst,a,zeroA,0,false,false,0,0,[]⟩
def simpleF (x:InsS):InsS :=
  if 3≤x.op∧x.op≤15∧x.b.reg < 0 then
    if x.b.num=0∧(x.op=3∨x.op=4∨x.op=11∨x.op=12∨13≤x.op) then plainI 2 x.dst x.a
    else if x.b.num=0∧(x.op=5∨x.op=10) then plainI 1 x.dst ⟨-1,0⟩
    else if x.b.num=1∧(x.op=5∨x.op=6∨x.op=7) then plainI 2 x.dst x.a
    else x
  else x
def resF (l:List FactS) (x:InsS):FactS:=if 0≤x.dst then resultF l x else anyF
def knownF (l:List FactS) (x:InsS):InsS :=
  if (resF l x).kind=1∧pureS x.op=true then plainI 1 x.dst ⟨-1,(resF l x).n⟩ else { x with a:=argF l x.a,b:=argF l x.b,args:=x.args.map (argF l) }
def insF (l:List FactS) (x:InsS):InsS:=simpleF (knownF l x)
def insFs:List FactS→List InsS→List InsS
  | _,[]=>[]
  | l,x::xs=>insF l x::insFs (stepF l x) xs
def argsT (l:List FactS) (t:TermS):TermS:={ t with a:=argF l t.a,b:=argF l t.b }
def termF (l:List FactS) (t:TermS):TermS :=
  match nextF (argsT l t) l with
  | [k]=>if t.kind=2 then jumpT k else argsT l t
  | _=>argsT l t
def blockF (l:List FactS) (b:BlockS):BlockS:=⟨insFs l b.ins,termF (b.ins.foldl stepF l) b.term⟩
def foldB:List BlockS→List (List FactS)→List Bool→List BlockS
  | b::bl,l::ls,s::ss=>(if s=true then blockF l b else b)::foldB bl ls ss
  | bl,_,_=>bl
inductive FoldS (regs:Int) (bl:List BlockS):List BlockS→Prop
  | mk {s:SolS} (h:SolRun bl (sol0 bl.length regs) s):FoldS regs bl (foldB bl s.ins s.seen)
end Go.Proofs.Ytjhloakacicdiaa
namespace Go.Proofs.Ytjhloakacicdiaa
open Go.AH
attribute [local irreducible] W RS
def factC (f:FactS):List Value:=[.int .i64 f.kind,.int .i64 f.n]
def factsC (l:List FactS):List Value:=l.flatMap factC
theorem factsC_length (l:List FactS):(factsC l).length=l.length * 2:=by
  induction l with
  | nil=>rfl
  | cons a l ih=>unfold factsC at *;rw [List.flatMap_cons,List.length_append,ih];simp [factC];omega
theorem factsC_cons (a:FactS) (l:List FactS):factsC (a::l)=factC a++factsC l:=rfl
theorem factsC_free (l:List FactS):∀ v∈factsC l,bnd 0 v:=by
  intro v hv
  obtain ⟨f,_,hf⟩:=List.mem_flatMap.1 hv
  simp only [factC,List.mem_cons,List.not_mem_nil,or_false] at hf
  rcases hf with e|e<;>subst e<;>simp
theorem factsC_at:∀ {l:List FactS} {i:Nat} {f:FactS},l[i]?=some f→takeV (0+i * 2) 2 (factsC l)=factC f
  | a::l,0,f,h=>by
    simp only [List.getElem?_cons_zero,Option.some.injEq] at h
    subst h
    rw [takeV_eq,factsC_cons];rfl
  | a::l,i+1,f,h=>by
    have:=factsC_at (l:=l) (i:=i) (by simpa using h)
    rw [takeV_eq] at this ⊢
    rw [factsC_cons,show 0+(i+1) * 2=(0+i * 2)+2 by omega,← List.drop_drop]
    rw [← this]
    show List.take 2 (List.drop 2 (List.drop (0+i * 2) _))=_
    rw [List.drop_drop,Nat.add_comm (0+i * 2) 2,← List.drop_drop]
    rfl
theorem factsC_set:∀ {l:List FactS} {i:Nat} {f:FactS},i < l.length→setL (factsC l) (0+i * 2) (factC f)=factsC (l.set i f)
  | a::l,0,f,_=>by
    rw [factsC_cons,List.set_cons_zero,factsC_cons]
    unfold factC
    rw [setL_cons,setL_cons,setL_nil];rfl
  | a::l,i+1,f,h=>by
    have:=factsC_set (l:=l) (i:=i) (f:=f) (by simpa using h)
    rw [factsC_cons,List.set_cons_succ,factsC_cons,← this,show 0+(i+1) * 2=(factC a).length+(0+i * 2) by simp [factC];omega]
    exact setL_app2 (factC a) (factsC l) _ _
inductive FaAt (h:Hp):Option Addr→List FactS→Prop
  | none:FaAt h Option.none []
  | some {b:Nat} {l:List FactS} (hm:h.m b=Option.some ⟨⟨factsC l⟩,111⟩) (hr:rwM≤b):FaAt h (Option.some ⟨b,0,Option.none⟩) l
def faH (h:Hp) (A:Option Addr) (l:List FactS):Hp:=match A with
  | some a=>h.set a.block ⟨⟨factsC l⟩,111⟩
  | none=>h
theorem FaAt.up {h H:Hp} {A:Option Addr} {l:List FactS} (s:FaAt h A l) (hu:∀ i b,h.m i=Option.some b→H.m i=Option.some b):FaAt H A l:=by
  cases s with
  | none=>exact .none
  | some hm hr=>exact .some (hu _ _ hm) hr
theorem faH_same {h:Hp} {A:Option Addr} {l:List FactS} (hs:FaAt h A l):faH h A l=h:=by
  cases hs with
  | none=>rfl
  | some hm hr =>
    rename_i k
    refine Hp.eq (fun i=>?_) rfl
    show (if i=k then some _ else h.m i)=h.m i
    split
    · rename_i e;rw [e,hm]
    · rfl
theorem faH_ok {P:Program} {h:Hp} (s0:Sat P h) {A:Option Addr} {s s':List FactS} (hs:FaAt h A s):h.n≤(faH h A s').n∧∀ i b,(faH h A s').m i=some b→i < (faH h A s').n∧∀ u∈b.cells,bnd (faH h A s').n u:=by
  cases hs with
  | none=>exact ⟨Nat.le_refl _,fun i b hb=>⟨s0.dom i b hb,s0.bd i b hb⟩⟩
  | some hm hr =>
    rename_i k
    refine ⟨Nat.le_refl _,fun i b hb=>?_⟩
    have hb:(if i=k then some ⟨⟨factsC s'⟩,111⟩ else h.m i)=some b:=hb
    split at hb
    · rename_i e
      simp only [Option.some.injEq] at hb
      subst hb;subst e
      exact ⟨s0.dom _ _ hm,fun u hu=>bnd_mono (Nat.zero_le _) _ (factsC_free _ u (by simpa using hu))⟩
    · exact ⟨s0.dom i b hb,s0.bd i b hb⟩
theorem ofF_neg {l:List FactS} {a:ArgS} (h:a.reg < 0):ofF l a=numF a.num:=by unfold ofF;rw [if_pos h]
theorem ofF_big {l:List FactS} {a:ArgS} (h:(l.length:Int)≤a.reg):ofF l a=anyF:=by
  unfold ofF
  rw [if_neg (by omega),List.getElem?_eq_none_iff.2 (by omega)];rfl
theorem ofF_at {l:List FactS} {a:ArgS} {f:FactS} (h0:0≤a.reg) (h:l[a.reg.toNat]?=some f):ofF l a=f:=by
  unfold ofF
  rw [if_neg (by omega),h];rfl
theorem of_tf (l:List FactS) (A:Option Addr) (c:Nat) (a:ArgS) (hl:l.length≤1000000000) (h:Hp) (hs:FaAt h A l):TF Try.prog 65 ⟨[.slice A l.length c,.agg ⟨argC a⟩]⟩ h (.agg ⟨factC (ofF l a)⟩) h:=by
  by_cases hneg:a.reg < 0
  · rw [ofF_neg hneg]
    refine TF.still (fn:=Try.f65) (c:=(Try.f65.body.getD .skip)) Try.func65 (by kernel_rfl) Try.ntmps65 (by kernel_rfl) (by simp [factC,numF]) ?_
    conv=>arg 2;whnf
    repeat (first|((with_reducible first|apply RS.assign|apply RS.fieldAddr|apply RS.box);iterate 3 exact rfl)|((with_reducible apply RS.cmpT);(iterate 4 exact rfl);(simp only [cmpP];omega))|((with_reducible apply RS.load1);iterate 6 exact rfl)|((with_reducible apply RS.store);(iterate 5 exact rfl);exact Nat.le_of_ble_eq_true rfl;iterate 3 exact rfl)|((with_reducible apply RS.alloc);iterate 2 exact rfl)|((with_reducible apply RS.build);iterate 4 exact rfl)|((with_reducible apply RS.nil);exact mixed;kernel_rfl)|(with_reducible first|apply W.seq|apply W.block|apply W.ret|apply thenK_n|apply thenK_r|apply blockK_r)|((with_reducible apply W.reg);kernel_rfl)|((with_reducible apply W.condT);kernel_rfl;exact rfl))
    exact endsK_ret _ (.cons (.cellN rfl rfl rfl (Nat.le_of_ble_eq_true rfl)) .nil) ⟨rfl,rfl⟩
  · by_cases hbig:(l.length:Int)≤a.reg
    · rw [ofF_big hbig]
      refine TF.still (fn:=Try.f65) (c:=(Try.f65.body.getD .skip)) Try.func65 (by kernel_rfl) Try.ntmps65 (by kernel_rfl) (by simp [factC,anyF]) ?_
      conv=>arg 2;whnf
      repeat (first|((with_reducible first|apply RS.move|apply RS.assign|apply RS.lenSl|apply RS.fieldAddr|apply RS.box);iterate 3 exact rfl)|((with_reducible apply RS.cmpT);(iterate 4 exact rfl);(simp only [cmpP];omega))|((with_reducible apply RS.cmpF);(iterate 4 exact rfl);(simp only [cmpN];omega))|((with_reducible apply RS.load1);iterate 6 exact rfl)|((with_reducible apply RS.store);(iterate 5 exact rfl);exact Nat.le_of_ble_eq_true rfl;iterate 3 exact rfl)|((with_reducible apply RS.alloc);iterate 2 exact rfl)|((with_reducible apply RS.build);iterate 4 exact rfl)|((with_reducible apply RS.nil);exact mixed;kernel_rfl)|(with_reducible first|apply W.seq|apply W.block|apply W.ret|apply thenK_n|apply thenK_r|apply blockK_r)|((with_reducible apply W.reg);kernel_rfl)|((with_reducible apply W.condT);kernel_rfl;exact rfl)|((with_reducible apply W.condF);kernel_rfl;exact rfl))
      exact endsK_ret _ (.cons (.cellN rfl rfl rfl (Nat.le_of_ble_eq_true rfl)) .nil) ⟨rfl,rfl⟩
    · have hlt:a.reg.toNat < l.length:=by omega
      have hnat:a.reg=(a.reg.toNat:Int):=by omega
      obtain ⟨f,hf⟩:∃ f,l[a.reg.toNat]?=some f:=⟨_,List.getElem?_eq_getElem hlt⟩
      rw [ofF_at (by omega) hf]
      cases hs with
      | none=>simp at hlt
      | some hm hr =>
        rename_i b
        refine TF.dom fun hd=>?_
        have hn:=hd _ _ hm
        have hle:0+a.reg.toNat * 2+2≤(factsC l).length:=by rw [factsC_length];omega
        refine TF.still (fn:=Try.f65) (c:=(Try.f65.body.getD .skip)) Try.func65 (by kernel_rfl) Try.ntmps65 (by kernel_rfl) (by simp [factC]) ?_
        conv=>arg 2;whnf
        repeat (first|((with_reducible apply RS.indexAddrS);(iterate 4 exact rfl);exact hnat;exact hlt)|((with_reducible apply RS.loadNB);(iterate 3 exact rfl);exact hm;exact hn;exact hle;exact factsC_at hf)|((with_reducible first|apply RS.move|apply RS.assign|apply RS.lenSl|apply RS.fieldAddr|apply RS.box);iterate 3 exact rfl)|((with_reducible apply RS.cmpF);(iterate 4 exact rfl);(simp only [cmpN];omega))|((with_reducible apply RS.load1);iterate 6 exact rfl)|((with_reducible apply RS.store);(iterate 5 exact rfl);exact Nat.le_of_ble_eq_true rfl;iterate 3 exact rfl)|((with_reducible apply RS.alloc);iterate 2 exact rfl)|((with_reducible apply RS.nil);exact mixed;kernel_rfl)|(with_reducible first|apply W.seq|apply W.block|apply W.ret|apply W.skip|apply thenK_n|apply blockK_n)|((with_reducible apply W.reg);kernel_rfl)|((with_reducible apply W.condF);kernel_rfl;exact rfl))
        exact endsK_ret _ (.cons (.cellN rfl rfl rfl (Nat.le_of_ble_eq_true rfl)) .nil) ⟨rfl,rfl⟩
theorem meet_tf (a b:FactS) (h:Hp):TF Try.prog 72 ⟨[.agg ⟨factC a⟩,.agg ⟨factC b⟩]⟩ h (.agg ⟨factC (meetF a b)⟩) h:=by
  refine TF.still (fn:=Try.f72) (c:=(Try.f72.body.getD .skip)) Try.func72 (by kernel_rfl) Try.ntmps72 (by kernel_rfl) (by simp [factC]) ?_
  conv=>arg 2;whnf
  unfold meetF
  repeat' (first|((with_reducible first|apply RS.move|apply RS.assign|apply RS.fieldAddr|apply RS.box);iterate 3 exact rfl)|((with_reducible apply RS.pickT);iterate 4 exact rfl)|((with_reducible apply RS.pickF);iterate 4 exact rfl)|((with_reducible apply RS.cmpC);iterate 5 exact rfl)|((with_reducible apply RS.bin);iterate 5 exact rfl)|((with_reducible apply RS.load1);iterate 6 exact rfl)|((with_reducible apply RS.loadN);(iterate 5 exact rfl);exact Nat.le_of_ble_eq_true rfl)|((with_reducible apply RS.store);(iterate 5 exact rfl);exact Nat.le_of_ble_eq_true rfl;iterate 3 exact rfl)|((with_reducible apply RS.alloc);iterate 2 exact rfl)|((with_reducible apply RS.build);iterate 4 exact rfl)|((with_reducible apply RS.skip);iterate 2 exact rfl)|((with_reducible apply RS.nil);exact mixed;kernel_rfl)|(with_reducible first|apply W.seq|apply W.block|apply W.ret|apply W.skip|apply thenK_n|apply thenK_r|apply blockK_n|apply blockK_r)|((with_reducible apply W.reg);kernel_rfl)|((with_reducible apply W.condF);kernel_rfl;exact rfl)|(((with_reducible apply RS.splitD);iterate 2 exact rfl)<;>intro _)|((((with_reducible apply RS.splitG);iterate 2 exact rfl)<;>intro _)<;>(fail_if_success cases ‹true=false›)<;>(fail_if_success cases ‹false=true›))|(((with_reducible apply W.condD);exact rfl)<;>intro _)|((((with_reducible apply W.cond);exact rfl)<;>intro _)<;>(fail_if_success cases ‹true=false›)<;>(fail_if_success cases ‹false=true›)))
  all_goals exact endsK_ret _ (.cons (.cellN rfl rfl rfl (Nat.le_of_ble_eq_true rfl)) .nil) ⟨rfl,by (repeat' split)<;>first|rfl|(exfalso;simp_all;done)|(exfalso;omega)⟩
end Go.Proofs.Ytjhloakacicdiaa
namespace Go.Proofs.Ytjhloakacicdiaa
open Go.AH
theorem wrap64_in (n:Int):-9223372036854775808≤IntKind.i64.wrap n∧IntKind.i64.wrap n≤9223372036854775807:=by
  simp only [IntKind.wrap,IntKind.signed,IntKind.bits];simp;omega
theorem fit_wrap (n:Int):fitI (IntKind.i64.wrap n):=wrap64_in n
theorem fit_i64 (n:Int):fitI (i64 n):=wrap64_in n
theorem fit_fdiv {a:Int} (h:fitI a) (k:Nat):fitI (a.fdiv (2 ^ k)):=by
  have hp:(0:Int) < 2 ^ k:=Int.pow_pos (by omega)
  rw [Int.fdiv_eq_ediv_of_nonneg _ (Int.le_of_lt hp)]
  obtain ⟨h1,h2⟩:=h
  refine ⟨?_,?_⟩
  · have:=Int.le_ediv_of_mul_le (a:=-9223372036854775808) (b:=a) hp (by
      have:(1:Int)≤2 ^ k:=hp
      have:=Int.mul_le_mul_of_nonpos_left (a:=(-9223372036854775808:Int)) (by omega) this
      omega)
    exact this
  · by_cases ha:0≤a
    · have:=Int.ediv_le_self (2 ^ k) ha
      omega
    · have:=Int.ediv_neg_of_neg_of_pos (show a < 0 by omega) hp
      omega
theorem fit_tmod {a b:Int} (h:fitI a):fitI (a.tmod b):=by
  obtain ⟨h1,h2⟩:=h
  have hn:=Int.natAbs_tmod a b
  have hm:=Nat.mod_le a.natAbs b.natAbs
  by_cases ha:0≤a
  · have:=Int.tmod_nonneg b ha
    constructor<;>omega
  · have h3:=Int.tmod_nonneg b (show 0≤-a by omega)
    rw [Int.neg_tmod] at h3
    constructor<;>omega
theorem fit_quot {op a b:Int} (ha:fitI a):fitI (quotS op a b).1:=by
  unfold quotS
  split
  · split
    · exact ⟨by show (_:Int)≤0;omega,by show (0:Int)≤_;omega⟩
    · exact fit_i64 _
  · split
    · exact ⟨by show (_:Int)≤0;omega,by show (0:Int)≤_;omega⟩
    · split
      · split
        · exact ⟨by show (_:Int)≤0;omega,by show (0:Int)≤_;omega⟩
        · exact fit_tmod ha
      · split<;>exact fit_i64 _
theorem fit_reckon {op a b:Int} (ha:fitI a):fitI (reckonS op a b).1:=by
  unfold reckonS
  repeat' split
  all_goals first|exact fit_i64 _|exact fit_fdiv ha _|exact fit_quot ha|exact ⟨by show (_:Int)≤1;omega,by show (1:Int)≤_;omega⟩|exact ⟨by show (_:Int)≤0;omega,by show (0:Int)≤_;omega⟩
theorem fit_widen {n size:Int} {sg:Bool} (hn:fitI n):fitI (widenS n size sg):=by
  unfold widenS
  repeat' split
  · exact hn
  · exact fit_fdiv (fit_i64 _) _
  · exact fit_i64 _
end Go.Proofs.Ytjhloakacicdiaa
namespace Go.Proofs.Ytjhloakacicdiaa
open Go.AH
attribute [local irreducible] W RS
theorem base_up {h H:Hp} (hd:∀ i b,h.m i=some b→i < h.n) (hH:∀ id,id < h.n→H.m id=h.m id):∀ i b,h.m i=some b→H.m i=some b:=fun i b hb=>by rw [hH i (hd i b hb)];exact hb
theorem farg_tf (l:List FactS) (A:Option Addr) (c:Nat) (a:ArgS) (hl:l.length≤1000000000) (h:Hp) (hs:FaAt h A l):TF Try.prog 51 ⟨[.slice A l.length c,.agg ⟨argC a⟩]⟩ h (.agg ⟨argC (argF l a)⟩) h:=by
  refine TF.dom fun hd=>?_
  refine TF.still (fn:=Try.f51) (c:=(Try.f51.body.getD .skip)) Try.func51 (by kernel_rfl) Try.ntmps51 (by kernel_rfl) (by simp [argC]) ?_
  conv=>arg 2;whnf
  repeat' (first|((with_reducible apply RS.callB);(iterate 3 exact rfl);first|exact fun H hH=>of_tf l A c _ hl H (hs.up (base_up hd hH));exact Nm_free (by simp [factC])|exact fun H hH=>(numN_tf _ H);exact Nm_free (by simp))|((with_reducible first|apply RS.move|apply RS.fieldAddr|apply RS.box);iterate 3 exact rfl)|((with_reducible apply RS.cmpC);iterate 5 exact rfl)|((with_reducible apply RS.load1);iterate 6 exact rfl)|((with_reducible apply RS.loadN);(iterate 5 exact rfl);exact Nat.le_of_ble_eq_true rfl)|((with_reducible apply RS.store);(iterate 5 exact rfl);exact Nat.le_of_ble_eq_true rfl;iterate 3 exact rfl)|((with_reducible apply RS.alloc);iterate 2 exact rfl)|((with_reducible apply RS.nil);exact mixed;kernel_rfl)|(with_reducible first|apply W.seq|apply W.ret|apply W.skip|apply thenK_n|apply thenK_r)|((with_reducible apply W.reg);kernel_rfl)|(((with_reducible apply RS.splitD);iterate 2 exact rfl)<;>intro _)|((((with_reducible apply RS.splitG);iterate 2 exact rfl)<;>intro _)<;>(fail_if_success cases ‹true=false›)<;>(fail_if_success cases ‹false=true›))|(((with_reducible apply W.condD);exact rfl)<;>intro _)|((((with_reducible apply W.cond);exact rfl)<;>intro _)<;>(fail_if_success cases ‹true=false›)<;>(fail_if_success cases ‹false=true›)))
  all_goals refine endsK_ret _ (.cons (.cellN rfl rfl rfl (Nat.le_of_ble_eq_true rfl)) .nil) ⟨rfl,?_⟩
  all_goals first
    | (rw [argF,if_pos (by assumption)];rfl)
    | (rw [argF,if_neg (by assumption)];rfl)
def simpleV (x:InsS) (A:Option Addr) (c:Nat):List Value :=
  if 3≤x.op∧x.op≤15∧x.b.reg < 0 then
    if x.b.num=0∧(x.op=3∨x.op=4∨x.op=11∨x.op=12∨13≤x.op) then insC (plainI 2 x.dst x.a) none 0
    else if x.b.num=0∧(x.op=5∨x.op=10) then insC (plainI 1 x.dst ⟨-1,0⟩) none 0
    else if x.b.num=1∧(x.op=5∨x.op=6∨x.op=7) then insC (plainI 2 x.dst x.a) none 0
    else insC x A c
  else insC x A c
theorem simpleV_eq (x:InsS) (r:Nat):simpleV x (insA (x,r)) (insK (x,r))=insVC (simpleF x,r):=by
  unfold simpleV simpleF
  repeat' split
  all_goals first|rfl|exact (insVC_eq (x,r)).symm
theorem insC_bd {n:Nat} (x:InsS) {A:Option Addr} {c:Nat} (hA:∀ a,A=some a→a.block < n):∀ v∈insC x A c,bnd n v:=by
  intro v hv
  simp only [insC,List.mem_cons,List.not_mem_nil,or_false] at hv
  rcases hv with e|e|e|e|e|e|e|e|e|e|e|e<;>subst e
  any_goals simp
  cases A with
  | none=>simp
  | some a=>simpa using hA a rfl
theorem simpleV_bd {n:Nat} (x:InsS) {A:Option Addr} {c:Nat} (hA:∀ a,A=some a→a.block < n):bnd n (.agg ⟨simpleV x A c⟩):=by
  rw [bnd_agg]
  have hn:∀ a,(none:Option Addr)=some a→a.block < n:=fun a h=>by cases h
  intro v hv
  have hv:v∈simpleV x A c:=by simpa using hv
  unfold simpleV at hv
  repeat' split at hv
  all_goals first|exact insC_bd _ hA v hv|exact insC_bd _ hn v hv
set_option maxRecDepth 100000 in
theorem simple_tf (x:InsS) (A:Option Addr) (c:Nat) (h:Hp) (hA:∀ a,A=some a→a.block < h.n):TF Try.prog 53 ⟨[.agg ⟨insC x A c⟩]⟩ h (.agg ⟨simpleV x A c⟩) h:=by
  refine TF.exact (fn:=Try.f53) (c:=(Try.f53.body.getD .skip)) Try.func53 (by kernel_rfl) Try.ntmps53 (by kernel_rfl) (fun s0=>⟨Nat.le_refl _,simpleV_bd x hA,fun i b hb=>⟨s0.dom i b hb,s0.bd i b hb⟩⟩) fun π s0=>?_
  conv=>arg 2;whnf
  unfold simpleV
  repeat' (first|((with_reducible apply RS.callB);(iterate 3 exact rfl);exact fun H hH=>(numN_tf _ H);exact Nm_free (by simp))|((with_reducible first|apply RS.move|apply RS.assign|apply RS.fieldAddr|apply RS.box);iterate 3 exact rfl)|((with_reducible apply RS.pickT);iterate 4 exact rfl)|((with_reducible apply RS.pickF);iterate 4 exact rfl)|((with_reducible apply RS.cmpT);(iterate 4 exact rfl);(simp only [cmpP];omega))|((with_reducible apply RS.cmpF);(iterate 4 exact rfl);(simp only [cmpN];omega))|((with_reducible apply RS.cmpC);iterate 5 exact rfl)|((with_reducible apply RS.load1);iterate 6 exact rfl)|((with_reducible apply RS.loadN);(iterate 5 exact rfl);exact Nat.le_of_ble_eq_true rfl)|((with_reducible apply RS.store);(iterate 5 exact rfl);exact Nat.le_of_ble_eq_true rfl;iterate 3 exact rfl)|((with_reducible apply RS.alloc);iterate 2 exact rfl)|((with_reducible apply RS.build);iterate 4 exact rfl)|((with_reducible apply RS.skip);iterate 2 exact rfl)|((with_reducible apply RS.nil);exact mixed;kernel_rfl)|(with_reducible first|apply W.seq|apply W.block|apply W.ret|apply W.skip|apply thenK_n|apply thenK_r|apply blockK_n|apply blockK_r)|((with_reducible apply W.reg);kernel_rfl)|((with_reducible apply W.condT);kernel_rfl;exact rfl)|((with_reducible apply W.condF);kernel_rfl;exact rfl)|(((with_reducible apply RS.splitD);iterate 2 exact rfl)<;>intro _)|((((with_reducible apply RS.splitG);iterate 2 exact rfl)<;>intro _)<;>(fail_if_success cases ‹true=false›)<;>(fail_if_success cases ‹false=true›))|(((with_reducible apply W.condD);exact rfl)<;>intro _)|((((with_reducible apply W.cond);exact rfl)<;>intro _)<;>(fail_if_success cases ‹true=false›)<;>(fail_if_success cases ‹false=true›)))
  all_goals refine endsK_ret _ (.cons (.cellN rfl rfl rfl (Nat.le_of_ble_eq_true rfl)) .nil) fun B' a=>⟨?_,a.up⟩
  all_goals first
    | (rw [if_neg (by omega)];rfl)
    | (rw [if_pos (by omega),if_pos (by omega)];rfl)
    | (rw [if_pos (by omega),if_neg (by omega),if_pos (by omega)];rfl)
    | (rw [if_pos (by omega),if_neg (by omega),if_neg (by omega),if_pos (by omega)];rfl)
    | (rw [if_pos (by omega),if_neg (by omega),if_neg (by omega),if_neg (by omega)];rfl)
end Go.Proofs.Ytjhloakacicdiaa
namespace Go.Proofs.Ytjhloakacicdiaa
open Go.AH
def leF (a b:FactS):Prop:=a.kind=0∨b.kind=2∨a=b
theorem leF.refl (a:FactS):leF a a:=.inr (.inr rfl)
theorem leF.trans {a b c:FactS} (h1:leF a b) (h2:leF b c):leF a c:=by
  rcases h1 with h|h|h
  · exact .inl h
  · rcases h2 with g|g|g
    · omega
    · exact .inr (.inl g)
    · subst g;exact .inr (.inl h)
  · subst h;exact h2
theorem FactS.ext' {a b:FactS} (h1:a.kind=b.kind) (h2:a.n=b.n):a=b:=by cases a;cases b;simp_all
theorem meetF_l (a b:FactS):leF a (meetF a b):=by
  unfold meetF
  split
  · rename_i h;exact .inl h
  · split
    · exact .refl _
    · split
      · exact .refl _
      · exact .inr (.inl rfl)
theorem meetF_r (a b:FactS):leF b (meetF a b):=by
  unfold meetF
  split
  · exact .refl _
  · split
    · rename_i h;exact .inl h
    · split
      · rename_i h;exact .inr (.inr (FactS.ext' (h.2.1.trans h.1.symm) h.2.2.symm))
      · exact .inr (.inl rfl)
theorem meetL_length:∀ l m:List FactS,(meetL l m).length=l.length
  | [],[]=>rfl
  | [],_::_=>rfl
  | _::_,[]=>rfl
  | _::l,_::m=>by simp [meetL,meetL_length l m]
theorem sameF_iff {a b:FactS}:sameF a b=true↔a=b:=by
  unfold sameF
  simp only [Bool.and_eq_true,decide_eq_true_eq]
  exact ⟨fun h=>FactS.ext' h.1 h.2,fun h=>by subst h;exact ⟨rfl,rfl⟩⟩
theorem sameL_iff:∀ {l m:List FactS},l.length=m.length→(sameL l m=true↔l=m)
  | [],[],_=>by simp [sameL]
  | a::l,b::m,h=>by
    have:=sameL_iff (l:=l) (m:=m) (by simpa using h)
    simp only [sameL,Bool.and_eq_true,sameF_iff,this,List.cons.injEq]
structure LeL (l m:List FactS):Prop where
  len:l.length=m.length
  le:∀ (i:Nat) (a b:FactS),l[i]?=some a→m[i]?=some b→leF a b
theorem LeL.refl (l:List FactS):LeL l l:=⟨rfl,fun i a b h1 h2=>by rw [h1] at h2;injection h2 with h2;subst h2;exact .refl _⟩
theorem LeL.trans {l m k:List FactS} (h1:LeL l m) (h2:LeL m k):LeL l k :=
  ⟨h1.len.trans h2.len,fun i a c ha hc=>by
    have hi:=(List.getElem?_eq_some_iff.1 ha).1
    obtain ⟨b,hb⟩:∃ b,m[i]?=some b:=⟨_,List.getElem?_eq_getElem (by rw [← h1.len];exact hi)⟩
    exact (h1.le i a b ha hb).trans (h2.le i b c hb hc)⟩
theorem meetL_get:∀ {l m:List FactS} {i:Nat} {a b:FactS},l[i]?=some a→m[i]?=some b→(meetL l m)[i]?=some (meetF a b)
  | x::l,y::m,0,a,b,h1,h2=>by
    simp only [List.getElem?_cons_zero,Option.some.injEq] at h1 h2
    subst h1;subst h2;rfl
  | x::l,y::m,i+1,a,b,h1,h2=>by
    rw [meetL,List.getElem?_cons_succ]
    exact meetL_get (by simpa using h1) (by simpa using h2)
  | [],_,_,_,_,h1,_=>by simp at h1
  | _::_,[],_,_,_,_,h2=>by simp at h2
theorem meetL_l {l m:List FactS} (hl:l.length=m.length):LeL l (meetL l m) :=
  ⟨(meetL_length l m).symm, fun i a c ha hc => by
    have hi:=(List.getElem?_eq_some_iff.1 ha).1
    obtain ⟨b,hb⟩:∃ b,m[i]?=some b:=⟨_,List.getElem?_eq_getElem (by rw [← hl];exact hi)⟩
    rw [meetL_get ha hb] at hc
    injection hc with hc
    subst hc
    exact meetF_l a b⟩
theorem meetL_r {l m:List FactS} (hl:l.length=m.length):LeL m (meetL l m) :=
  ⟨by rw [meetL_length,hl],fun i b c hb hc=>by
    have hi:=(List.getElem?_eq_some_iff.1 hb).1
    obtain ⟨a,ha⟩:∃ a,l[i]?=some a:=⟨_,List.getElem?_eq_getElem (by rw [hl];exact hi)⟩
    rw [meetL_get ha hb] at hc
    injection hc with hc
    subst hc
    exact meetF_r a b⟩
theorem stepF_length (l:List FactS) (x:InsS):(stepF l x).length=l.length:=by unfold stepF;split<;>simp
theorem stepsF_length:∀ (xs:List InsS) (l:List FactS),(xs.foldl stepF l).length=l.length
  | [],_=>rfl
  | x::xs,l=>by rw [List.foldl_cons,stepsF_length xs,stepF_length]
structure SolW (n r:Nat) (s:SolS):Prop where
  ins:s.ins.length=n
  seen:s.seen.length=n
  wid:∀ (k:Nat) (l:List FactS),s.ins[k]?=some l→s.seen[k]?=some true→l.length=r
  work:∀ k∈s.work,0≤k∧k < n∧s.seen[k.toNat]?=some true
structure SolUp (s t:SolS):Prop where
  seen:∀ k:Nat,s.seen[k]?=some true→t.seen[k]?=some true
  work:∀ k∈s.work,k∈t.work
  new:∀ k:Nat,t.seen[k]?=some true→(k:Int) ∉ t.work→s.seen[k]?=some true∧t.ins[k]?=s.ins[k]?
  up:∀ (k:Nat) (l m:List FactS),s.seen[k]?=some true→s.ins[k]?=some l→t.ins[k]?=some m→LeL l m
theorem SolUp.refl (s:SolS):SolUp s s:=⟨fun _ h=>h,fun _ h=>h,fun _ h _=>⟨h,rfl⟩,fun k l m _ h1 h2=>by rw [h1] at h2;injection h2 with h2;subst h2;exact .refl _⟩
theorem SolUp.trans {n r:Nat} {a b c:SolS} (wb:SolW n r b) (h1:SolUp a b) (h2:SolUp b c) (hl:a.ins.length=b.ins.length):SolUp a c :=
  ⟨fun k h=>h2.seen k (h1.seen k h),fun k h=>h2.work k (h1.work k h),fun k h hk=>by
    obtain ⟨g1,g2⟩:=h2.new k h hk
    obtain ⟨g3,g4⟩:=h1.new k g1 fun hm=>hk (h2.work _ hm)
    exact ⟨g3,g2.trans g4⟩,fun k l m hs ha hc=>by
    have hi:=(List.getElem?_eq_some_iff.1 ha).1
    obtain ⟨x,hx⟩:∃ x,b.ins[k]?=some x:=⟨_,List.getElem?_eq_getElem (by rw [← hl];exact hi)⟩
    exact (h1.up k l x hs ha hx).trans (h2.up k x m (h1.seen k hs) hx hc)⟩
theorem seen_some {l:List Bool} {k:Nat} (hk:k < l.length):l[k]?=some true∨l[k]?=some false:=by
  rw [List.getElem?_eq_getElem hk]
  cases l[k]<;>simp
theorem reachF_ok {n r:Nat} {s:SolS} (w:SolW n r s) {l:List FactS} (hl:l.length=r) {k:Int} (h0:0≤k) (h1:k < n) :
    SolW n r (reachF l s k)∧SolUp s (reachF l s k)∧(reachF l s k).seen[k.toNat]?=some true∧∀ m,(reachF l s k).ins[k.toNat]?=some m→LeL l m:=by
  have hk:k.toNat < n:=by omega
  obtain ⟨a,ha⟩:∃ a,s.ins[k.toNat]?=some a:=⟨_,List.getElem?_eq_getElem (by rw [w.ins];exact hk)⟩
  unfold reachF
  rw [ha]
  rcases seen_some (l:=s.seen) (k:=k.toNat) (by rw [w.seen];exact hk) with hs|hs
  · rw [hs]
    simp only [Option.getD_some,if_pos]
    have hal:=w.wid _ _ ha hs
    have hml:(meetL a l).length=a.length:=meetL_length a l
    split
    · rename_i he
      have he:meetL a l=a:=(sameL_iff hml).1 he
      refine ⟨w,.refl s,hs,fun m hm=>?_⟩
      rw [ha] at hm
      injection hm with hm
      subst hm
      have:=meetL_r (l:=a) (m:=l) (by rw [hal,hl])
      rwa [he] at this
    · refine ⟨⟨by simp [w.ins],w.seen,fun j x hx hj=>?_,fun j hj=>?_⟩,⟨fun j h=>h,fun j h=>by simp [h],fun j hj hn=>?_,fun j x y hj hx hy=>?_⟩,hs,fun m hm=>?_⟩
      · rw [List.getElem?_set] at hx
        split at hx
        · split at hx
          · injection hx with hx;rw [← hx,hml,hal]
          · cases hx
        · exact w.wid j x hx hj
      · simp only [List.mem_cons] at hj
        rcases hj with e|e
        · subst e;exact ⟨h0,h1,hs⟩
        · exact w.work j e
      · refine ⟨hj,?_⟩
        simp only [List.mem_cons,not_or] at hn
        rw [List.getElem?_set,if_neg (by omega)]
      · rw [List.getElem?_set] at hy
        split at hy
        · rename_i e
          subst e
          split at hy
          · injection hy with hy
            rw [ha] at hx
            injection hx with hx
            subst hx;subst hy
            exact meetL_l (by rw [hal,hl])
          · cases hy
        · rw [hx] at hy;injection hy with hy;subst hy;exact .refl _
      · rw [List.getElem?_set,if_pos rfl,if_pos (by rw [w.ins];exact hk)] at hm
        injection hm with hm
        subst hm
        exact meetL_r (by rw [hal,hl])
  · rw [hs]
    simp only [Option.getD_some,Bool.false_eq_true,if_false]
    refine ⟨⟨by simp [w.ins],by simp [w.seen],fun j x hx hj=>?_,fun j hj=>?_⟩,⟨fun j h=>?_,fun j h=>by simp [h],fun j hj hn=>?_,fun j x y hj hx hy=>?_⟩,?_,fun m hm=>?_⟩
    · rw [List.getElem?_set] at hx
      split at hx
      · split at hx
        · injection hx with hx;rw [← hx,hl]
        · cases hx
      · rw [List.getElem?_set] at hj
        split at hj
        · rename_i e1 e2;exact absurd e2 e1
        · exact w.wid j x hx hj
    · simp only [List.mem_cons] at hj
      rcases hj with e|e
      · subst e
        exact ⟨h0,h1,by rw [List.getElem?_set,if_pos rfl,if_pos (by rw [w.seen];exact hk)]⟩
      · obtain ⟨g1,g2,g3⟩:=w.work j e
        refine ⟨g1,g2,?_⟩
        rw [List.getElem?_set]
        split
        · rename_i e;rw [if_pos (by rw [w.seen];exact hk)]
        · exact g3
    · rw [List.getElem?_set]
      split
      · rw [if_pos (by rw [w.seen];exact hk)]
      · exact h
    · simp only [List.mem_cons,not_or] at hn
      rw [List.getElem?_set,if_neg (by omega)] at hj
      exact ⟨hj,by rw [List.getElem?_set,if_neg (by omega)]⟩
    · by_cases e:k.toNat=j
      · subst e;rw [hs] at hj;cases hj
      · rw [List.getElem?_set,if_neg e,hx] at hy
        injection hy with hy;subst hy;exact .refl _
    · rw [List.getElem?_set,if_pos rfl,if_pos (by rw [w.seen];exact hk)]
    · rw [List.getElem?_set,if_pos rfl,if_pos (by rw [w.ins];exact hk)] at hm
      injection hm with hm;subst hm;exact .refl _
theorem reachFs_ok {n r:Nat} {l:List FactS} (hl:l.length=r):∀ (ks:List Int) (s:SolS),SolW n r s→(∀ k∈ks,0≤k∧k < n) →
    SolW n r (ks.foldl (reachF l) s)∧SolUp s (ks.foldl (reachF l) s)∧∀ k∈ks,(ks.foldl (reachF l) s).seen[k.toNat]?=some true∧∀ m,(ks.foldl (reachF l) s).ins[k.toNat]?=some m→LeL l m
  | [],s,w,_=>⟨w,.refl s,fun k hk=>by cases hk⟩
  | k::ks,s,w,hk=>by
    obtain ⟨w1,u1,s1,m1⟩:=reachF_ok w hl (hk k (by simp)).1 (hk k (by simp)).2
    obtain ⟨w2,u2,s2⟩:=reachFs_ok hl ks (reachF l s k) w1 fun j hj=>hk j (by simp [hj])
    refine ⟨w2,SolUp.trans w1 u1 u2 (by rw [w.ins,w1.ins]),fun j hj=>?_⟩
    rcases List.mem_cons.1 hj with e|e
    · subst e
      refine ⟨u2.seen _ s1,fun m hm=>?_⟩
      have hlt:j.toNat < n:=by have:=hk j (by simp);omega
      obtain ⟨x,hx⟩:∃ x,(reachF l s j).ins[j.toNat]?=some x:=⟨_,List.getElem?_eq_getElem (by rw [w1.ins];exact hlt)⟩
      exact (m1 x hx).trans (u2.up _ _ _ s1 hx hm)
    · exact s2 j e
theorem nextF_sub {t:TermS} {l:List FactS}:∀ k∈nextF t l,k∈nextS t:=by
  intro k hk
  unfold nextF at hk
  split at hk
  · exact hk
  · rename_i h
    have h2:t.kind=2:=by omega
    split at hk
    · exact hk
    · rw [nextS_2 h2]
      split at hk<;>simp at hk<;>simp [hk]
structure SolI (bl:List BlockS) (r:Nat) (s:SolS):Prop extends SolW bl.length r s where
  zero:s.seen[0]?=some true
  top:∀ l,s.ins[0]?=some l→∀ f∈l,f.kind=2
  done:∀ (k:Nat) (b:BlockS),bl[k]?=some b→s.seen[k]?=some true→(k:Int) ∉ s.work→∀ o∈nextF b.term (outF bl s k),s.seen[o.toNat]?=some true∧∀ m,s.ins[o.toNat]?=some m→LeL (outF bl s k) m
theorem outF_length {bl:List BlockS} {r:Nat} {s:SolS} (w:SolW bl.length r s) {k:Nat} (hk:k < bl.length) (hs:s.seen[k]?=some true):(outF bl s k).length=r:=by
  unfold outF
  obtain ⟨b,hb⟩:∃ b,bl[k]?=some b:=⟨_,List.getElem?_eq_getElem hk⟩
  obtain ⟨l,hl⟩:∃ l,s.ins[k]?=some l:=⟨_,List.getElem?_eq_getElem (by rw [w.ins];exact hk)⟩
  simp only [Int.toNat_natCast,hb,hl,Option.getD_some]
  rw [stepsF_length,w.wid k l hl hs]
theorem outF_congr {bl:List BlockS} {s t:SolS} {k:Nat} (h:t.ins[k]?=s.ins[k]?):outF bl t k=outF bl s k:=by
  unfold outF
  rw [Int.toNat_natCast,h]
theorem roundF_ok {bl:List BlockS} (ht:tgtOK bl) {r:Nat} {s:SolS} (i:SolI bl r s) {k:Int} {w:List Int} (hw:s.work=k::w):SolI bl r (roundF bl ⟨s.ins,s.seen,w⟩ k):=by
  obtain ⟨k0,k1,ks⟩:=i.work k (by rw [hw];simp)
  have hkl:k.toNat < bl.length:=by omega
  obtain ⟨b,hb⟩:∃ b,bl[k.toNat]?=some b:=⟨_,List.getElem?_eq_getElem hkl⟩
  have hke:((k.toNat:Nat):Int)=k:=by omega
  have w0:SolW bl.length r ⟨s.ins,s.seen,w⟩:=⟨i.ins,i.seen,i.wid,fun j hj=>i.work j (by rw [hw];simp [hj])⟩
  have ho:outF bl ⟨s.ins,s.seen,w⟩ k=outF bl s k:=by
    have:=outF_congr (bl:=bl) (s:=s) (t:=⟨s.ins,s.seen,w⟩) (k:=k.toNat) rfl
    rwa [hke] at this
  have hl:(outF bl s k).length=r:=by have:=outF_length i.toSolW hkl ks;rwa [hke] at this
  unfold roundF
  rw [hb,ho]
  dsimp only
  obtain ⟨w1,u1,s1⟩:=reachFs_ok hl (nextF b.term (outF bl s k)) ⟨s.ins,s.seen,w⟩ w0 fun j hj=>ht b (List.mem_of_getElem? hb) j (nextF_sub j hj)
  refine ⟨w1,u1.seen 0 i.zero,fun l hl0 f hf=>?_,fun j c hc hj hn o hoo=>?_⟩
  · have h0:0 < s.ins.length:=by rw [i.ins];omega
    obtain ⟨l0,hl00⟩:∃ l0,s.ins[0]?=some l0:=⟨_,List.getElem?_eq_getElem h0⟩
    have hle:=u1.up 0 l0 l i.zero hl00 hl0
    obtain ⟨q,hq⟩:=List.mem_iff_getElem?.1 hf
    have hql:=(List.getElem?_eq_some_iff.1 hq).1
    obtain ⟨f0,hf0⟩:∃ f0,l0[q]?=some f0:=⟨_,List.getElem?_eq_getElem (by rw [hle.len];exact hql)⟩
    have h2:=i.top l0 hl00 f0 (List.mem_of_getElem? hf0)
    rcases hle.le q f0 f hf0 hq with e|e|e
    · omega
    · exact e
    · rw [← e];exact h2
  · obtain ⟨g1,g2⟩:=u1.new j hj hn
    have g1:s.seen[j]?=some true:=g1
    have g2':outF bl ((nextF b.term (outF bl s k)).foldl (reachF (outF bl s k)) ⟨s.ins,s.seen,w⟩) j=outF bl s j:=outF_congr (s:=s) g2
    rw [g2'] at hoo ⊢
    by_cases e:(j:Int)=k
    · have ej:j=k.toNat:=by omega
      subst ej
      rw [hb] at hc
      injection hc with hc
      subst hc
      rw [hke] at hoo ⊢
      exact s1 o hoo
    · have hnw:(j:Int) ∉ s.work:=by
        rw [hw]
        simp only [List.mem_cons,not_or]
        exact ⟨e,fun h=>hn (u1.work _ h)⟩
      obtain ⟨q1,q2⟩:=i.done j c hc g1 hnw o hoo
      refine ⟨u1.seen _ q1,fun m hm=>?_⟩
      have hol:=ht c (List.mem_of_getElem? hc) o (nextF_sub o hoo)
      obtain ⟨x,hx⟩:∃ x,s.ins[o.toNat]?=some x:=⟨_,List.getElem?_eq_getElem (by rw [i.ins];omega)⟩
      exact (q2 x hx).trans (u1.up _ x m q1 hx hm)
theorem solRun_ok {bl:List BlockS} (ht:tgtOK bl) {r:Nat} {s s':SolS} (h:SolRun bl s s'):SolI bl r s→SolI bl r s'∧s'.work=[]:=by
  induction h with
  | stop h=>exact fun i=>⟨i,h⟩
  | go h _ ih=>exact fun i=>ih (roundF_ok ht i h)
theorem sol0_ok {bl:List BlockS} (hpos:0 < bl.length) (regs:Int):SolI bl regs.toNat (sol0 bl.length regs):=by
  have w0:SolW bl.length regs.toNat ⟨List.replicate bl.length [],List.replicate bl.length false,[]⟩:=by
    refine ⟨by simp,by simp,fun k l _ hk=>?_,fun k hk=>by cases hk⟩
    have hk:(List.replicate bl.length false)[k]?=some true:=hk
    rw [List.getElem?_replicate] at hk
    split at hk<;>simp at hk
  obtain ⟨w1,u1,s1,m1⟩:=reachF_ok w0 (l:=List.replicate regs.toNat anyF) (by simp) (k:=0) (by omega) (by omega)
  have e:sol0 bl.length regs=⟨(List.replicate bl.length []).set 0 (List.replicate regs.toNat anyF),(List.replicate bl.length false).set 0 true,[0]⟩:=by
    unfold sol0 reachF
    obtain ⟨m,hm⟩:∃ m,bl.length=m+1:=⟨bl.length - 1,by omega⟩
    rw [hm]
    rfl
  refine ⟨w1,s1,fun l hl f hf=>?_,fun k b hb hk hn=>?_⟩
  · rw [e,List.getElem?_set,if_pos rfl,if_pos (by simp;omega)] at hl
    injection hl with hl
    subst hl
    rw [List.eq_of_mem_replicate hf];rfl
  · rw [e] at hk hn
    simp only [List.mem_singleton] at hn
    rw [List.getElem?_set,if_neg (by omega),List.getElem?_replicate] at hk
    split at hk<;>simp at hk
theorem foldB_length:∀ (bl:List BlockS) (ls:List (List FactS)) (ss:List Bool),(foldB bl ls ss).length=bl.length
  | [],_,_=>by cases ‹List (List FactS)›<;>cases ‹List Bool›<;>rfl
  | _::_,[],_=>rfl
  | _::_,_::_,[]=>rfl
  | _::bl,_::ls,_::ss=>by simp [foldB,foldB_length bl ls ss]
theorem foldB_get:∀ {bl:List BlockS} {ls:List (List FactS)} {ss:List Bool} {k:Nat} {b:BlockS} {l:List FactS} {s:Bool},bl[k]?=some b→ls[k]?=some l→ss[k]?=some s→(foldB bl ls ss)[k]?=some (if s=true then blockF l b else b)
  | _::_,_::_,_::_,0,_,_,_,h1,h2,h3=>by
    simp only [List.getElem?_cons_zero,Option.some.injEq] at h1 h2 h3
    subst h1;subst h2;subst h3;rfl
  | _::_,_::_,_::_,k+1,_,_,_,h1,h2,h3=>by
    rw [foldB,List.getElem?_cons_succ]
    exact foldB_get (by simpa using h1) (by simpa using h2) (by simpa using h3)
  | [],_,_,_,_,_,_,h1,_,_=>by simp at h1
  | _::_,[],_,_,_,_,_,_,h2,_=>by simp at h2
  | _::_,_::_,[],_,_,_,_,_,_,h3=>by simp at h3
theorem argF_neg {l:List FactS} {a:ArgS}:(argF l a).reg < 0↔(ofF l a).kind=1:=by
  unfold argF
  split
  · rename_i h;exact ⟨fun _=>h,fun _=>by show (-1:Int) < 0;omega⟩
  · rename_i h
    refine ⟨fun hr=>absurd ?_ h,fun h'=>absurd h' h⟩
    unfold ofF
    rw [if_pos hr];rfl
theorem argF_num {l:List FactS} {a:ArgS} (h:(ofF l a).kind=1):argF l a=⟨-1,(ofF l a).n⟩:=by unfold argF;rw [if_pos h]
theorem ofF_argF (l:List FactS) (a:ArgS):ofF l (argF l a)=ofF l a:=by
  unfold argF
  split
  · rename_i h
    have:ofF l ⟨-1,(ofF l a).n⟩=numF (ofF l a).n:=by unfold ofF;rw [if_pos (show (-1:Int) < 0 by omega)]
    rw [this]
    exact FactS.ext' h.symm rfl
  · rfl
theorem nextF_argsT (l:List FactS) (t:TermS):nextF (argsT l t) l=nextF t l:=by
  unfold nextF argsT
  simp only [ofF_argF]
  rfl
theorem nextF_termF {l:List FactS} {t:TermS}:∀ k∈nextS (termF l t),k∈nextF t l:=by
  intro k hk
  unfold termF at hk
  rw [nextF_argsT] at hk
  have other:t.kind≠2∨(nextF t l=nextS t)→k∈nextS (argsT l t)→k∈nextF t l:=by
    intro h hk
    have hk:k∈nextS t:=hk
    rcases h with h|h
    · unfold nextF;rw [if_pos h];exact hk
    · rw [h];exact hk
  split at hk
  · rename_i j hj
    split at hk
    · have:k=j:=by simpa [nextS,jumpT] using hk
      rw [hj,this];simp
    · rename_i h;exact other (.inl h) hk
  · rename_i hj
    refine other ?_ hk
    by_cases h2:t.kind=2
    · right
      unfold nextF at hj ⊢
      rw [if_neg (by omega)] at hj ⊢
      split
      · rfl
      · rename_i h3
        rw [if_neg h3] at hj
        split at hj
        · exact absurd rfl (hj _)
        · exact absurd rfl (hj _)
    · exact .inl h2
theorem termF_plain {l:List FactS} {t:TermS}:¬ ((termF l t).kind=2∧(termF l t).a.reg < 0∧(termF l t).b.reg < 0):=by
  rintro ⟨h1,h2,h3⟩
  have other:∀ j,nextF t l=[j]→(argsT l t).kind=2→False:=by
    intro j hj hk
    have hk:t.kind=2:=hk
    unfold termF at h1
    rw [nextF_argsT,hj] at h1
    dsimp only at h1
    rw [if_pos hk] at h1
    have h1:(1:Int)=2:=h1
    omega
  have hn:termF l t=argsT l t→False:=by
    intro e
    rw [e] at h1 h2 h3
    have h1':t.kind=2:=h1
    have h2:(argF l t.a).reg < 0:=h2
    have h3:(argF l t.b).reg < 0:=h3
    rw [argF_neg] at h2 h3
    have hx:nextF t l=[t.goto]∨nextF t l=[t.els]:=by
      unfold nextF
      rw [if_neg (by omega),if_neg (by omega)]
      split
      · exact .inl rfl
      · exact .inr rfl
    rcases hx with e|e
    · exact other _ e h1'
    · exact other _ e h1'
  unfold termF at hn h1
  split at h1
  · rename_i j hj
    split at h1
    · have h1:(1:Int)=2:=h1
      omega
    · rename_i h4
      exact h4 h1
  · rename_i hj
    refine hn ?_
    split
    · rename_i j hj'
      exact absurd hj' (hj j)
    · rfl
def plainN (x:InsS):Bool:=(decide (x.op=2∨x.op=22) && decide (x.a.reg < 0)) || (twoS x.op && decide (x.a.reg < 0) && decide (x.b.reg < 0) && (reckonS x.op x.a.num x.b.num).2)
theorem two_iff {op:Int}:twoS op=true↔3≤op∧op≤21:=by simp [twoS]
theorem pure_iff {op:Int}:pureS op=true↔1≤op∧op≤25:=by simp [pureS]
theorem reckon_ok {op a b:Int} (h:3≤op∧op≤15) (hb:(b=0∧(op=3∨op=4∨op=11∨op=12∨13≤op))∨(b=1∧(op=5∨op=6∨op=7))):(reckonS op a b).2=true:=by
  have:op=3∨op=4∨op=5∨op=6∨op=7∨op=8∨op=9∨op=10∨op=11∨op=12∨op=13∨op=14∨op=15:=by omega
  rcases this with e|e|e|e|e|e|e|e|e|e|e|e|e<;>subst e<;>try rfl
  · have:b=1:=by omega
    subst this
    unfold reckonS quotS
    simp
  · have:b=1:=by omega
    subst this
    unfold reckonS quotS
    simp
  · omega
  · omega
theorem insF_plain {l:List FactS} {x:InsS} (hd:pureS x.op=true→0≤x.dst):plainN (insF l x)=false:=by
  unfold insF knownF
  split
  · have:simpleF (plainI 1 x.dst ⟨-1,(resF l x).n⟩)=plainI 1 x.dst ⟨-1,(resF l x).n⟩:=by
      unfold simpleF plainI
      rw [if_neg (by simp)]
    rw [this]
    simp [plainN,plainI,twoS]
  · rename_i hr
    have hr:pureS x.op=true→(resultF l x).kind≠1:=by
      intro hp h
      refine hr ⟨?_,hp⟩
      unfold resF
      rw [if_pos (hd hp)];exact h
    have key:twoS x.op=true→(ofF l x.a).kind=1→(ofF l x.b).kind=1→(reckonS x.op (ofF l x.a).n (ofF l x.b).n).2=false:=by
      intro h2 ha hb
      have hop:=two_iff.1 h2
      have:=hr (pure_iff.2 (by omega))
      unfold resultF at this
      rw [if_neg (by omega),if_neg (by omega),if_neg (by omega),if_pos h2] at this
      unfold twoF at this
      rw [if_pos ⟨ha,hb⟩] at this
      cases hq:(reckonS x.op (ofF l x.a).n (ofF l x.b).n).2 with
      | false=>rfl
      | true=>rw [hq] at this;exact absurd rfl this
    unfold simpleF
    split
    · rename_i hs
      obtain ⟨s1,s2,s3⟩:=hs
      have s1:3≤x.op:=s1
      have s2:x.op≤15:=s2
      have s3:(argF l x.b).reg < 0:=s3
      have h2:twoS x.op=true:=two_iff.2 (by omega)
      have hb:=argF_neg.1 s3
      have hbn:=argF_num hb
      have copy:((argF l x.b).num=0∧(x.op=3∨x.op=4∨x.op=11∨x.op=12∨13≤x.op))∨((argF l x.b).num=1∧(x.op=5∨x.op=6∨x.op=7))→plainN (plainI 2 x.dst (argF l x.a))=false:=by
        intro hc
        have hna:¬ (argF l x.a).reg < 0:=by
          intro ha
          have hak:=argF_neg.1 ha
          have h3:=key h2 hak hb
          rw [hbn] at hc
          rw [reckon_ok ⟨s1,s2⟩ hc] at h3
          cases h3
        have h2':¬ (3≤(2:Int)∧(2:Int)≤21):=by omega
        unfold plainN plainI
        simp only [twoS]
        rw [decide_eq_false hna]
        simp
      dsimp only
      split
      · rename_i h;exact copy (.inl h)
      · split
        · simp [plainN,plainI,twoS]
        · split
          · rename_i h;exact copy (.inr h)
          · cases hpl:plainN { x with a:=argF l x.a,b:=argF l x.b,args:=x.args.map (argF l) } with
            | false=>rfl
            | true =>
              exfalso
              unfold plainN at hpl
              simp only [Bool.or_eq_true,Bool.and_eq_true,decide_eq_true_eq] at hpl
              rcases hpl with ⟨h4,_⟩|⟨⟨⟨_,h5⟩,h6⟩,h7⟩
              · omega
              · rw [argF_neg] at h5 h6
                rw [argF_num h5,argF_num h6] at h7
                have:=key h2 h5 h6
                rw [this] at h7
                cases h7
    · cases hpl:plainN { x with a:=argF l x.a,b:=argF l x.b,args:=x.args.map (argF l) } with
      | false=>rfl
      | true =>
        exfalso
        unfold plainN at hpl
        simp only [Bool.or_eq_true,Bool.and_eq_true,decide_eq_true_eq] at hpl
        rcases hpl with ⟨h4,h5⟩|⟨⟨⟨h4,h5⟩,h6⟩,h7⟩
        · rw [argF_neg] at h5
          rcases h4 with h4|h4
          · have:=hr (pure_iff.2 (by omega))
            unfold resultF at this
            rw [if_pos (.inr h4)] at this
            exact this h5
          · have:=hr (pure_iff.2 (by omega))
            unfold resultF at this
            rw [if_neg (by omega),if_pos ⟨h4,h5⟩] at this
            exact this rfl
        · rw [argF_neg] at h5 h6
          rw [argF_num h5,argF_num h6] at h7
          have:=key h4 h5 h6
          rw [this] at h7
          cases h7
theorem insFs_length:∀ (xs:List InsS) (l:List FactS),(insFs l xs).length=xs.length
  | [],_=>rfl
  | _::xs,l=>by simp [insFs,insFs_length xs]
theorem insFs_mem:∀ {xs:List InsS} {l:List FactS} {y:InsS},y∈insFs l xs→∃ x∈xs,∃ m,m.length=l.length∧y=insF m x
  | x::xs,l,y,h=>by
    rw [insFs] at h
    rcases List.mem_cons.1 h with e|e
    · exact ⟨x,by simp,l,rfl,e⟩
    · obtain ⟨x',h1,m,h2,h3⟩:=insFs_mem e
      exact ⟨x',by simp [h1],m,by rw [h2,stepF_length],h3⟩
  | [],_,_,h=>by cases h
structure NumOK (bl bl':List BlockS):Prop where
  len:bl'.length=bl.length
  ins:∀ (k:Nat) (b b':BlockS),bl[k]?=some b→bl'[k]?=some b'→b'.ins.length=b.ins.length
  tgt:tgtOK bl'
  plain:∀ (k:Nat) (b':BlockS),bl'[k]?=some b'→hasS (reachedS bl') k=true→¬ (b'.term.kind=2∧b'.term.a.reg < 0∧b'.term.b.reg < 0)∧∀ x∈b'.ins,plainN x=false
theorem foldS_at {bl:List BlockS} {s:SolS} {r:Nat} (i:SolI bl r s) {k:Nat} {b':BlockS} (h:(foldB bl s.ins s.seen)[k]?=some b') :
    ∃ b l,bl[k]?=some b∧s.ins[k]?=some l∧((s.seen[k]?=some true∧b'=blockF l b)∨(s.seen[k]?=some false∧b'=b)):=by
  have hk:=(List.getElem?_eq_some_iff.1 h).1
  rw [foldB_length] at hk
  obtain ⟨b,hb⟩:∃ b,bl[k]?=some b:=⟨_,List.getElem?_eq_getElem hk⟩
  obtain ⟨l,hl⟩:∃ l,s.ins[k]?=some l:=⟨_,List.getElem?_eq_getElem (by rw [i.ins];exact hk)⟩
  refine ⟨b,l,hb,hl,?_⟩
  rcases seen_some (l:=s.seen) (k:=k) (by rw [i.seen];exact hk) with hs|hs
  · left
    rw [foldB_get hb hl hs] at h
    injection h with h
    exact ⟨hs,by rw [← h,if_pos rfl]⟩
  · right
    rw [foldB_get hb hl hs] at h
    injection h with h
    exact ⟨hs,by rw [← h,if_neg (by simp)]⟩
theorem blockF_next {bl:List BlockS} {s:SolS} {k:Nat} {b:BlockS} {l:List FactS} (hb:bl[k]?=some b) (hl:s.ins[k]?=some l):∀ o∈nextS (blockF l b).term,o∈nextF b.term (outF bl s k):=by
  intro o ho
  have:outF bl s k=b.ins.foldl stepF l:=by
    unfold outF
    rw [Int.toNat_natCast,hb,hl];rfl
  rw [this]
  exact nextF_termF o ho
theorem fold_numbers {bl bl':List BlockS} {regs:Int} (hpos:0 < bl.length) (ht:tgtOK bl) (hd:∀ b∈bl,∀ x∈b.ins,pureS x.op=true→0≤x.dst) (h:FoldS regs bl bl'):NumOK bl bl':=by
  obtain ⟨hr⟩:=h
  rename_i s
  obtain ⟨i,hw⟩:=solRun_ok ht hr (sol0_ok hpos regs)
  have htgt:tgtOK (foldB bl s.ins s.seen):=by
    intro b' hb' o ho
    obtain ⟨k,hk⟩:=List.mem_iff_getElem?.1 hb'
    obtain ⟨b,l,hb,hl,h⟩:=foldS_at i hk
    rw [foldB_length]
    rcases h with ⟨_,e⟩|⟨_,e⟩
    · subst e
      exact ht b (List.mem_of_getElem? hb) o (nextF_sub o (blockF_next hb hl o ho))
    · subst e
      exact ht b' (List.mem_of_getElem? hb) o ho
  refine ⟨foldB_length _ _ _,fun k b b' hb hb'=>?_,htgt,fun k b' hb' hk=>?_⟩
  · obtain ⟨b1,l,h1,_,h⟩:=foldS_at i hb'
    rw [hb] at h1
    injection h1 with h1
    subst h1
    rcases h with ⟨_,e⟩|⟨_,e⟩
    · subst e;exact insFs_length _ _
    · subst e;rfl
  · have hkl:=(List.getElem?_eq_some_iff.1 hb').1
    have hR:Reach (foldB bl s.ins s.seen) k:=(reached_iff (by rw [foldB_length];exact hpos) htgt (by omega) (by omega)).1 hk
    have hseen:∀ j:Int,Reach (foldB bl s.ins s.seen) j→s.seen[j.toNat]?=some true:=by
      intro j hj
      induction hj with
      | zero=>exact i.zero
      | step h hn ih =>
        rename_i j1 j2
        unfold nextAt at hn
        split at hn
        · rename_i c hc
          obtain ⟨b,l,hb,hl,h⟩:=foldS_at i hc
          rcases h with ⟨hs,e⟩|⟨hs,e⟩
          · subst e
            exact (i.done _ b hb hs (by rw [hw];simp) j2 (blockF_next hb hl j2 hn)).1
          · rw [hs] at ih;cases ih
        · cases hn
    have hs:=hseen k hR
    rw [Int.toNat_natCast] at hs
    obtain ⟨b,l,hb,hl,h⟩:=foldS_at i hb'
    rcases h with ⟨_,e⟩|⟨hs',_⟩
    · subst e
      refine ⟨termF_plain,fun x hx=>?_⟩
      obtain ⟨x0,hx0,m,_,rfl⟩:=insFs_mem hx
      exact insF_plain (hd b (List.mem_of_getElem? hb) x0 hx0)
    · rw [hs] at hs';cases hs'
end Go.Proofs.Ytjhloakacicdiaa
namespace Go.Proofs.Ytjhloakacicdiaa
open Go.AH
attribute [local irreducible] W RS
set_option maxRecDepth 100000 in
theorem fnext_ex (t:TermS) (l:List FactS) (A:Option Addr) (c:Nat) (hl:l.length≤1000000000) (h:Hp) (hs:FaAt h A l) :
    EX Try.prog 54 [.agg ⟨termC t⟩,.slice A l.length c] h (fun v h'=>∃ A' c',v=.slice A' (nextF t l).length c'∧IntAt h' A' (nextF t l)∧Old h h'∧∀ a,A'=some a→h.n≤a.block):=by
  refine EX.intro (fn:=Try.f54) (c:=(Try.f54.body.getD .skip)) Try.func54 (by kernel_rfl) Try.ntmps54 (by kernel_rfl) fun π s0=>?_
  conv=>arg 2;whnf
  have hd:=s0.dom
  by_cases hk:t.kind=2
  · repeat (first|((with_reducible apply RS.callB);(iterate 3 exact rfl);exact fun H hH=>of_tf l A c _ hl H (hs.up (base_up hd hH));exact Nm_free (by simp [factC]))|((with_reducible first|apply RS.move|apply RS.assign|apply RS.fieldAddr|apply RS.box);iterate 3 exact rfl)|((with_reducible apply RS.cmpF);(iterate 4 exact rfl);(simp only [cmpN];omega))|((with_reducible apply RS.cmpC);iterate 5 exact rfl)|((with_reducible apply RS.load1);iterate 6 exact rfl)|((with_reducible apply RS.loadN);(iterate 5 exact rfl);exact Nat.le_of_ble_eq_true rfl)|((with_reducible apply RS.store);(iterate 5 exact rfl);exact Nat.le_of_ble_eq_true rfl;iterate 3 exact rfl)|((with_reducible apply RS.alloc);iterate 2 exact rfl)|((with_reducible apply RS.nil);exact mixed;kernel_rfl)|(with_reducible first|apply W.seq|apply W.skip|apply thenK_n)|((with_reducible apply W.reg);kernel_rfl)|((with_reducible apply W.condF);kernel_rfl;exact rfl))
    repeat' ((first|(((with_reducible apply RS.splitD);iterate 2 exact rfl)<;>intro _)|((((with_reducible apply RS.splitG);iterate 2 exact rfl)<;>intro _)<;>(fail_if_success cases ‹true=false›)<;>(fail_if_success cases ‹false=true›))|(((with_reducible apply W.condD);exact rfl)<;>intro _)|((((with_reducible apply W.cond);exact rfl)<;>intro _)<;>(fail_if_success cases ‹true=false›)<;>(fail_if_success cases ‹false=true›)))<;>repeat (first|((with_reducible apply RS.callEx);(iterate 3 exact rfl);intro B5 hB5;refine ⟨_,next_ex t B5,?_⟩;rintro v H5 π5 ⟨AL,cL,rfl,hrow,ho5,hnewL⟩ sH5 hle5)|((with_reducible apply RS.buildSlice);iterate 8 exact rfl)|((with_reducible apply RS.callP);(iterate 3 exact rfl);exact fun H=>(holds_tf _ _ _ H);exact Nm_free (by simp))|((with_reducible first|apply RS.assign|apply RS.fieldAddr);iterate 3 exact rfl)|((with_reducible apply RS.pickT);iterate 4 exact rfl)|((with_reducible apply RS.pickF);iterate 4 exact rfl)|((with_reducible apply RS.cmpC);iterate 5 exact rfl)|((with_reducible apply RS.load1);iterate 6 exact rfl)|((with_reducible apply RS.loadN);(iterate 5 exact rfl);exact Nat.le_of_ble_eq_true rfl)|((with_reducible apply RS.skip);iterate 2 exact rfl)|((with_reducible apply RS.nil);exact mixed;kernel_rfl)|(with_reducible first|apply W.seq|apply W.ret|apply W.skip|apply thenK_n|apply thenK_r)|((with_reducible apply W.reg);kernel_rfl)|((with_reducible apply W.condT);kernel_rfl;exact rfl)))
    · have e:nextF t l=nextS t:=by unfold nextF;rw [if_neg (by omega),if_pos (.inl (by simpa using ‹((ofF l t.a).kind != 1)=true›))]
      rw [e]
      exact endsK_ret _ (.cons (.tmp rfl) .nil) fun B' a=>⟨AL,cL,rfl,hrow.up a.up,(hB5.oldH.trans ho5).trans a.oldH,fun q hq=>Nat.le_trans hB5.le (hnewL q hq)⟩
    · have e:nextF t l=nextS t:=by unfold nextF;rw [if_neg (by omega),if_pos (.inr (by simpa using ‹((ofF l t.b).kind != 1)=true›))]
      rw [e]
      exact endsK_ret _ (.cons (.tmp rfl) .nil) fun B' a=>⟨AL,cL,rfl,hrow.up a.up,(hB5.oldH.trans ho5).trans a.oldH,fun q hq=>Nat.le_trans hB5.le (hnewL q hq)⟩
    · have q1:(ofF l t.a).kind=1:=by simpa using ‹((ofF l t.a).kind != 1)=false›
      have q2:(ofF l t.b).kind=1:=by simpa using ‹((ofF l t.b).kind != 1)=false›
      have e:nextF t l=[t.goto]:=by unfold nextF;rw [if_neg (by omega),if_neg (by omega),if_pos (by assumption)]
      rw [e]
      exact endsK_ret _ (.cons (.tmp rfl) .nil) fun B' a=>⟨_,_,rfl,.inr ⟨_,rfl,a.loc 3 (by decide:(3:Nat) < 4)⟩,a.oldH,fun q hq=>by injection hq with hq;rw [← hq];exact a.lo 3 (by decide:(3:Nat) < 4)⟩
    · have q1:(ofF l t.a).kind=1:=by simpa using ‹((ofF l t.a).kind != 1)=false›
      have q2:(ofF l t.b).kind=1:=by simpa using ‹((ofF l t.b).kind != 1)=false›
      have e:nextF t l=[t.els]:=by unfold nextF;rw [if_neg (by omega),if_neg (by omega),if_neg (by simp_all)]
      rw [e]
      exact endsK_ret _ (.cons (.tmp rfl) .nil) fun B' a=>⟨_,_,rfl,.inr ⟨_,rfl,a.loc 3 (by decide:(3:Nat) < 4)⟩,a.oldH,fun q hq=>by injection hq with hq;rw [← hq];exact a.lo 3 (by decide:(3:Nat) < 4)⟩
  · have e:nextF t l=nextS t:=by unfold nextF;rw [if_pos hk]
    rw [e]
    repeat (first|((with_reducible apply RS.callEx);(iterate 3 exact rfl);intro B5 hB5;refine ⟨_,next_ex t B5,?_⟩;rintro v H5 π5 ⟨AL,cL,rfl,hrow,ho5,hnewL⟩ sH5 hle5)|((with_reducible first|apply RS.assign|apply RS.fieldAddr|apply RS.box);iterate 3 exact rfl)|((with_reducible apply RS.cmpT);(iterate 4 exact rfl);(simp only [cmpP];omega))|((with_reducible apply RS.load1);iterate 6 exact rfl)|((with_reducible apply RS.loadN);(iterate 5 exact rfl);exact Nat.le_of_ble_eq_true rfl)|((with_reducible apply RS.nil);exact mixed;kernel_rfl)|(with_reducible first|apply W.seq|apply W.ret|apply thenK_n|apply thenK_r)|((with_reducible apply W.reg);kernel_rfl)|((with_reducible apply W.condT);kernel_rfl;exact rfl))
    exact endsK_ret _ (.cons (.tmp rfl) .nil) fun B' a=>⟨AL,cL,rfl,hrow.up a.up,(hB5.oldH.trans ho5).trans a.oldH,fun q hq=>Nat.le_trans hB5.le (hnewL q hq)⟩
def rowsV:List Nat→List (List FactS)→List Value
  | a::al,l::ls=>rowVl 2 a l::rowsV al ls
  | _,_=>[]
theorem rowsV_length:∀ {al:List Nat} {ls:List (List FactS)},al.length=ls.length→(rowsV al ls).length=ls.length
  | [],[],_=>rfl
  | a::al,l::ls,h=>by simp [rowsV,rowsV_length (al:=al) (ls:=ls) (by simpa using h)]
theorem rowsV_get:∀ {al:List Nat} {ls:List (List FactS)} {i a:Nat} {l:List FactS},al[i]?=some a→ls[i]?=some l→(rowsV al ls)[i]?=some (rowVl 2 a l)
  | _::_,_::_,0,_,_,h1,h2=>by
    simp only [List.getElem?_cons_zero,Option.some.injEq] at h1 h2
    subst h1;subst h2;rfl
  | _::_,_::_,i+1,_,_,h1,h2=>by
    rw [rowsV,List.getElem?_cons_succ]
    exact rowsV_get (by simpa using h1) (by simpa using h2)
  | [],_,_,_,_,h1,_=>by simp at h1
  | _::_,[],_,_,_,_,h2=>by simp at h2
theorem rowsV_set:∀ {al:List Nat} {ls:List (List FactS)} (i a:Nat) (l:List FactS),al.length=ls.length→(rowsV al ls).set i (rowVl 2 a l)=rowsV (al.set i a) (ls.set i l)
  | [],[],_,_,_,_=>rfl
  | _::_,_::_,0,_,_,_=>rfl
  | _::al,_::ls,i+1,a,l,h=>by simp [rowsV,rowsV_set (al:=al) (ls:=ls) i a l (by simpa using h)]
structure SolAt (h:Hp) (N sb fb ib nb:Nat) (al:List Nat) (n:Nat) (s:SolS):Prop where
  rw:rwM≤N
  alen:al.length=n
  ilen:s.ins.length=n
  slen:s.seen.length=n
  gs:N≤sb
  gi:N≤ib
  gn:N≤nb
  hi:h.m ib=some ⟨⟨rowsV al s.ins⟩,109⟩
  hn:h.m nb=some ⟨⟨s.seen.map .bool⟩,4⟩
  row:∀ (i a:Nat) (l:List FactS),al[i]?=some a→s.ins[i]?=some l→l≠[]→N≤a∧h.m a=some ⟨⟨factsC l⟩,111⟩
  sep:∀ (i j a:Nat) (l m:List FactS),al[i]?=some a→al[j]?=some a→s.ins[i]?=some l→s.ins[j]?=some m→l≠[]→m≠[]→i=j
  stk:∃ A cap,h.m sb=some ⟨⟨[.pointer (some ⟨fb,0,none⟩),.slice (some ⟨ib,0,none⟩) n n,.slice (some ⟨nb,0,none⟩) n n,.slice A s.work.length cap]⟩,106⟩∧StkRow h 3 A cap (intsV s.work)∧∀ a,A=some a→N≤a.block
theorem _root_.Go.AH.StkRow.keep {h H:Hp} {e:TypeId} {A:Option Addr} {cap:Nat} {vs:List Value} (s:StkRow h e A cap vs) (hu:∀ i b,h.m i=some b→b.elem=e→H.m i=some b):StkRow H e A cap vs:=by
  cases s with
  | nil=>exact .nil
  | row hm hr hc=>exact .row (hu _ _ hm rfl) hr hc
section
variable {h H:Hp} {N sb fb ib nb:Nat} {al:List Nat} {n:Nat} {s:SolS}
theorem SolAt.up (o:SolAt h N sb fb ib nb al n s) (hu:∀ i b,h.m i=some b→H.m i=some b):SolAt H N sb fb ib nb al n s :=
  ⟨o.rw,o.alen,o.ilen,o.slen,o.gs,o.gi,o.gn,hu _ _ o.hi,hu _ _ o.hn,fun i a l h1 h2 h3=>⟨(o.row i a l h1 h2 h3).1,hu _ _ (o.row i a l h1 h2 h3).2⟩,o.sep,by
    obtain ⟨A,cap,h1,h2,h3⟩:=o.stk;exact ⟨A,cap,hu _ _ h1,h2.up hu,h3⟩⟩
theorem SolAt.setSeen (o:SolAt h N sb fb ib nb al n s) {t:List Bool} (ht:t.length=n) (hb:H.m nb=some ⟨⟨t.map .bool⟩,4⟩) (hk:∀ i b,h.m i=some b→b.elem≠4→H.m i=some b):SolAt H N sb fb ib nb al n ⟨s.ins,t,s.work⟩ :=
  ⟨o.rw,o.alen,o.ilen,ht,o.gs,o.gi,o.gn,hk _ _ o.hi (by simp),hb,fun i a l h1 h2 h3=>⟨(o.row i a l h1 h2 h3).1,hk _ _ (o.row i a l h1 h2 h3).2 (by simp)⟩,o.sep,by
    obtain ⟨A,cap,h1,h2,h3⟩:=o.stk;exact ⟨A,cap,hk _ _ h1 (by simp),h2.keep fun i b hb he=>hk i b hb (by rw [he];decide),h3⟩⟩
theorem SolAt.setWork (o:SolAt h N sb fb ib nb al n s) {w:List Int} (hk:∀ i b,h.m i=some b→b.elem≠3→b.elem≠106→H.m i=some b) (hs:∃ A cap,H.m sb=some ⟨⟨[.pointer (some ⟨fb,0,none⟩),.slice (some ⟨ib,0,none⟩) n n,.slice (some ⟨nb,0,none⟩) n n,.slice A w.length cap]⟩,106⟩∧StkRow H 3 A cap (intsV w)∧∀ a,A=some a→N≤a.block):SolAt H N sb fb ib nb al n ⟨s.ins,s.seen,w⟩ :=
  ⟨o.rw,o.alen,o.ilen,o.slen,o.gs,o.gi,o.gn,hk _ _ o.hi (by simp) (by simp),hk _ _ o.hn (by simp) (by simp),fun i a l h1 h2 h3=>⟨(o.row i a l h1 h2 h3).1,hk _ _ (o.row i a l h1 h2 h3).2 (by simp) (by simp)⟩,o.sep,hs⟩
theorem set_get {α:Type} {l:List α} {k i:Nat} {x y:α} (h:(l.set k x)[i]?=some y):(i=k∧y=x)∨(i≠k∧l[i]?=some y):=by
  rw [List.getElem?_set] at h
  by_cases e:k=i
  · rw [if_pos e] at h
    split at h
    · injection h with h;exact .inl ⟨e.symm,h.symm⟩
    · cases h
  · rw [if_neg e] at h;exact .inr ⟨fun e'=>e e'.symm,h⟩
theorem SolAt.newRow (o:SolAt h N sb fb ib nb al n s) {k q:Nat} {l:List FactS} (hb:H.m ib=some ⟨⟨(rowsV al s.ins).set k (rowVl 2 q l)⟩,109⟩) (hq:l≠[]→N≤q∧H.m q=some ⟨⟨factsC l⟩,111⟩∧∀ b,h.m q≠some b) (hk:∀ i b,h.m i=some b→b.elem≠109→H.m i=some b):SolAt H N sb fb ib nb (al.set k q) n ⟨s.ins.set k l,s.seen,s.work⟩:=by
  have hrow:∀ (i a:Nat) (m:List FactS),(al.set k q)[i]?=some a→(s.ins.set k l)[i]?=some m→m≠[]→(i=k∧a=q∧m=l)∨(i≠k∧al[i]?=some a∧s.ins[i]?=some m):=by
    intro i a m h1 h2 h3
    rcases set_get h1 with ⟨e1,e2⟩|⟨e1,e2⟩<;>rcases set_get h2 with ⟨f1,f2⟩|⟨f1,f2⟩
    · exact .inl ⟨e1,e2,f2⟩
    · exact absurd e1 f1
    · exact absurd f1 e1
    · exact .inr ⟨e1,e2,f2⟩
  refine ⟨o.rw,by rw [List.length_set];exact o.alen,by rw [List.length_set];exact o.ilen,o.slen,o.gs,o.gi,o.gn,by rw [hb,rowsV_set _ _ _ (by rw [o.alen,o.ilen])],hk _ _ o.hn (by simp),fun i a m h1 h2 h3=>?_,fun i j a m m' h1 h2 h3 h4 h5 h6=>?_,?_⟩
  · rcases hrow i a m h1 h2 h3 with ⟨_,rfl,rfl⟩|⟨_,g1,g2⟩
    · exact ⟨(hq h3).1,(hq h3).2.1⟩
    · exact ⟨(o.row i a m g1 g2 h3).1,hk _ _ (o.row i a m g1 g2 h3).2 (by simp)⟩
  · rcases hrow i a m h1 h3 h5 with ⟨e1,e2,e3⟩|⟨_,g1,g2⟩<;>rcases hrow j a m' h2 h4 h6 with ⟨f1,f2,f3⟩|⟨_,g3,g4⟩
    · rw [e1,f1]
    · subst e2;subst e3
      exact absurd (o.row j a m' g3 g4 h6).2 ((hq h5).2.2 _)
    · subst f2;subst f3
      exact absurd (o.row i a m g1 g2 h5).2 ((hq h6).2.2 _)
    · exact o.sep i j a m m' g1 g3 g2 g4 h5 h6
  · obtain ⟨A,cap,h1,h2,h3⟩:=o.stk
    exact ⟨A,cap,hk _ _ h1 (by simp),h2.keep fun i b hb he=>hk i b hb (by rw [he];decide),h3⟩
def SolE (e:TypeId):Prop:=e=109∨e=4∨e=111∨e=106∨e=3
theorem SolAt.upE (o:SolAt h N sb fb ib nb al n s) (hu:∀ i b,h.m i=some b→SolE b.elem→H.m i=some b):SolAt H N sb fb ib nb al n s :=
  ⟨o.rw,o.alen,o.ilen,o.slen,o.gs,o.gi,o.gn,hu _ _ o.hi (.inl rfl),hu _ _ o.hn (.inr (.inl rfl)),fun i a l h1 h2 h3=>⟨(o.row i a l h1 h2 h3).1,hu _ _ (o.row i a l h1 h2 h3).2 (.inr (.inr (.inl rfl)))⟩,o.sep,by
    obtain ⟨A,cap,h1,h2,h3⟩:=o.stk;exact ⟨A,cap,hu _ _ h1 (.inr (.inr (.inr (.inl rfl)))),h2.keep fun i b hb he=>hu i b hb (.inr (.inr (.inr (.inr he)))),h3⟩⟩
theorem SolAt.setRow (o:SolAt h N sb fb ib nb al n s) {k q:Nat} {l m:List FactS} (hq:al[k]?=some q) (hl:s.ins[k]?=some l) (hne:l≠[]) (hlm:m.length=l.length) (hb:H.m q=some ⟨⟨factsC m⟩,111⟩) (hk:∀ i b,h.m i=some b→SolE b.elem→i≠q→H.m i=some b):SolAt H N sb fb ib nb al n ⟨s.ins.set k m,s.seen,s.work⟩:=by
  have hmn:m≠[]:=by intro e;rw [e] at hlm;exact hne (List.length_eq_zero_iff.1 hlm.symm)
  have hqm:=(o.row k q l hq hl hne).2
  have keep:∀ {i:Nat} {b:Blk},h.m i=some b→SolE b.elem→b.elem≠111→H.m i=some b:=by
    intro i b hb hE he
    refine hk i b hb hE fun e=>?_
    rw [e,hqm] at hb
    injection hb with hb
    exact he (by rw [← hb])
  have hkl:=(List.getElem?_eq_some_iff.1 hl).1
  have hrow:∀ (i:Nat) (x:List FactS),(s.ins.set k m)[i]?=some x→(i=k∧x=m)∨(i≠k∧s.ins[i]?=some x):=by
    intro i x h2
    exact set_get h2
  refine ⟨o.rw,o.alen,by rw [List.length_set];exact o.ilen,o.slen,o.gs,o.gi,o.gn,?_,keep o.hn (.inr (.inl rfl)) (by simp),fun i a x h1 h2 h3=>?_,fun i j a x y h1 h2 h3 h4 h5 h6=>?_,?_⟩
  · have e:=rowsV_set (al:=al) (ls:=s.ins) k q m (by rw [o.alen,o.ilen])
    have e2:al.set k q=al:=set_same hq
    have e3:(rowsV al s.ins).set k (rowVl 2 q m)=rowsV al s.ins:=by
      apply set_same
      rw [rowsV_get hq hl,rowVl_eq,rowVl_eq,if_neg hne,if_neg hmn,if_neg hne,if_neg hmn,hlm]
    rw [e2] at e
    rw [← e,e3]
    exact keep o.hi (.inl rfl) (by simp)
  · rcases hrow i x h2 with ⟨e1,e2⟩|⟨e1,e2⟩
    · subst e1;subst e2
      rw [hq] at h1;injection h1 with h1;subst h1
      exact ⟨(o.row i q l hq hl hne).1,hb⟩
    · refine ⟨(o.row i a x h1 e2 h3).1,hk _ _ (o.row i a x h1 e2 h3).2 (.inr (.inr (.inl rfl))) fun e=>?_⟩
      subst e
      exact e1 (o.sep i k a x l h1 hq e2 hl h3 hne)
  · have fix:∀ (i:Nat) (x:List FactS),(s.ins.set k m)[i]?=some x→x≠[]→∃ z,s.ins[i]?=some z∧z≠[]:=by
      intro i x hx hn
      rcases hrow i x hx with ⟨e1,e2⟩|⟨e1,e2⟩
      · subst e1;exact ⟨l,hl,hne⟩
      · exact ⟨x,e2,hn⟩
    obtain ⟨z1,g1,g2⟩:=fix i x h3 h5
    obtain ⟨z2,g3,g4⟩:=fix j y h4 h6
    exact o.sep i j a z1 z2 h1 h2 g1 g3 g2 g4
  · obtain ⟨A,cap,h1,h2,h3⟩:=o.stk
    exact ⟨A,cap,keep h1 (.inr (.inr (.inr (.inl rfl)))) (by simp),h2.keep fun i b hb he=>keep hb (.inr (.inr (.inr (.inr he)))) (by rw [he];decide),h3⟩
end
end Go.Proofs.Ytjhloakacicdiaa
namespace Go.Proofs.Ytjhloakacicdiaa
open Go.AH
attribute [local irreducible] W RS
instance tyP_fact:TyP Try.prog 111 [.int .i64,.int .i64]:=⟨by kernel_rfl⟩
theorem meetL_take_at:∀ {a l:List FactS} {i:Nat} {f:FactS},a[i]?=some f→(meetL a (l.take i))[i]?=some f
  | x::a,[],0,f,h=>by simpa [meetL] using h
  | x::a,y::l,0,f,h=>by simpa [meetL] using h
  | x::a,[],i+1,f,h=>by simpa [meetL] using h
  | x::a,y::l,i+1,f,h=>by
    rw [List.take_succ_cons,meetL,List.getElem?_cons_succ]
    exact meetL_take_at (by simpa using h)
  | [],_,_,_,h=>by simp at h
theorem meetL_take_succ:∀ {a l:List FactS} {i:Nat} {f g:FactS},a[i]?=some f→l[i]?=some g→meetL a (l.take (i+1))=(meetL a (l.take i)).set i (meetF f g)
  | x::a,y::l,0,f,g,h1,h2=>by
    simp only [List.getElem?_cons_zero,Option.some.injEq] at h1 h2
    subst h1;subst h2
    simp [meetL]
  | x::a,y::l,i+1,f,g,h1,h2=>by
    rw [List.take_succ_cons,List.take_succ_cons,meetL,meetL,List.set_cons_succ]
    rw [meetL_take_succ (a:=a) (l:=l) (by simpa using h1) (by simpa using h2)]
  | [],_,_,_,_,h1,_=>by simp at h1
  | _::_,[],_,_,_,_,h2=>by simp at h2
theorem sameL_succ:∀ {a l:List FactS} {i:Nat} {f g:FactS},a[i]?=some f→l[i]?=some g→sameL (meetL a (l.take (i+1))) a=(sameL (meetL a (l.take i)) a && sameF (meetF f g) f)
  | x::a,y::l,0,f,g,h1,h2=>by
    simp only [List.getElem?_cons_zero,Option.some.injEq] at h1 h2
    subst h1;subst h2
    have e0:sameL a a=true:=(sameL_iff rfl).2 rfl
    have e1:sameF x x=true:=sameF_iff.2 rfl
    have e2:meetL a []=a:=by cases a<;>rfl
    simp only [List.take_succ_cons,List.take_zero,meetL,sameL,e0,e1,e2,Bool.and_true,Bool.true_and]
  | x::a,y::l,i+1,f,g,h1,h2=>by
    rw [List.take_succ_cons,List.take_succ_cons,meetL,meetL,sameL,sameL,sameL_succ (a:=a) (l:=l) (by simpa using h1) (by simpa using h2),Bool.and_assoc]
  | [],_,_,_,_,h1,_=>by simp at h1
  | _::_,[],_,_,_,_,h2=>by simp at h2
theorem bools_get {s:List Bool} {i:Nat} {b:Bool} (h:s[i]?=some b):(s.map Value.bool)[0+i * 1]?=some (.bool b):=by
  rw [Nat.zero_add,Nat.mul_one,List.getElem?_map,h];rfl
theorem bools_set (s:List Bool) (i:Nat) (b:Bool):setL (s.map Value.bool) (0+i * 1) [.bool b]=(s.set i b).map .bool:=by
  rw [cells_set1,List.map_set]
theorem cells_at {l:List Value} {i:Nat} {v:Value} (h:l[i]?=some v):l[0+i * 1]?=some v:=by rw [Nat.zero_add,Nat.mul_one];exact h
def ApartF (al:List Nat) (ins:List (List FactS)) (i:Nat):Prop:=∀ (j:Nat) (l:List FactS),al[j]?=some i→ins[j]?=some l→l=[]
def ApartW (h:Hp) (sb i:Nat):Prop:=∀ (f g e:Value) (A:Option Addr) (n c:Nat) (el:TypeId),h.m sb=some ⟨⟨[f,g,e,.slice A n c]⟩,el⟩→A≠some ⟨i,0,none⟩
def ReachQ (h:Hp) (N sb fb ib nb:Nat) (al:List Nat) (n:Nat) (s t:SolS) (h':Hp):Prop :=
  ∃ al',SolAt h' N sb fb ib nb al' n t∧OffS (fun i=>N≤i) h h'∧(∀ i b,h.m i=some b→b.elem=111→ApartF al s.ins i→h'.m i=some b∧ApartF al' t.ins i)∧∀ i b,h.m i=some b→b.elem=3→ApartW h sb i→h'.m i=some b∧ApartW h' sb i
theorem reach_close {h C0 B7 H7 B':Hp} {N sb fb ib nb:Nat} {al al':List Nat} {n:Nat} {s t:SolS} {k:Int} {A3 A7:Option Addr} {cap3 cap7:Nat} {vs:List Value} {Y:Blk} (hd:∀ i b,h.m i=some b→i < h.n) (hn0:h.n≤C0.n) (o3:SolAt C0 N sb fb ib nb al' n t)
    (hlow:∀ i,i < N→C0.m i=h.m i) (hap:∀ i b,h.m i=some b→b.elem=111→ApartF al s.ins i→C0.m i=some b∧ApartF al' t.ins i) (hN:N≤h.n) (hki:∀ i b,h.m i=some b→b.elem=3→C0.m i=some b) (hw3:∀ i,ApartW h sb i→A3≠some ⟨i,0,none⟩)
    (hstk3:StkRow C0 3 A3 cap3 (intsV t.work)) (hA3:∀ a,A3=some a→N≤a.block) (hup7:∀ i b,C0.m i=some b→B7.m i=some b) (hB7:Old C0 B7) (hd7:∀ i b,B7.m i=some b→i < B7.n) (hvs:vs=intsV (k::t.work)) (hst7:StkRow H7 3 A7 cap7 vs) (hle7:B7.n≤H7.n)
    (hoff7:∀ i,i < B7.n→A3≠some ⟨i,0,none⟩→H7.m i=B7.m i) (hA7:∀ a,A7=some a→A3=some a∨B7.n≤a.block) (hS7:∃ b,H7.m sb=some b∧b.elem=106) (hY:Y=⟨⟨[.pointer (some ⟨fb,0,none⟩),.slice (some ⟨ib,0,none⟩) n n,.slice (some ⟨nb,0,none⟩) n n,.slice A7 (t.work.length+1) cap7]⟩,106⟩)
    (hup:∀ i b,(H7.set sb Y).m i=some b→B'.m i=some b) (ho:Old (H7.set sb Y) B'):ReachQ h N sb fb ib nb al n s ⟨t.ins,t.seen,k::t.work⟩ B':=by
  obtain ⟨b7,hS7,hS7e⟩:=hS7
  have hk7:∀ i b,C0.m i=some b→b.elem≠3→H7.m i=some b:=fun i b hb he=>by
    rw [hoff7 i (hd7 _ _ (hup7 _ _ hb)) (stk_ne hstk3 hb he)];exact hup7 _ _ hb
  have hkB:∀ i b,C0.m i=some b→b.elem≠3→b.elem≠106→B'.m i=some b:=fun i b hb he he2=>by
    refine hup i b ?_
    show (if i=sb then _ else H7.m i)=_
    rw [if_neg (ne_of_elem (hk7 i b hb he) hS7 (by rw [hS7e];exact he2))]
    exact hk7 i b hb he
  have hst':StkRow B' 3 A7 cap7 vs:=hst7.keep fun i b hb he=>by
    refine hup i b ?_
    show (if i=sb then _ else H7.m i)=_
    rw [if_neg (ne_of_elem hb hS7 (by rw [hS7e,he];decide))]
    exact hb
  have hgs:=o3.gs
  have hnn:h.n≤B7.n:=Nat.le_trans hn0 hB7.1
  have o4:=o3.setWork (w:=k::t.work) hkB ⟨A7,cap7,hup sb _ (by show (if sb=sb then _ else _)=_;rw [if_pos rfl,hY];rfl),by rw [← hvs];exact hst',fun a ha=>by
    rcases hA7 a ha with e|e
    · exact hA3 a e
    · omega⟩
  refine ⟨al',o4,⟨?_,fun i hi hn=>?_⟩,fun i b hb he hx=>?_,fun i b hb he hx=>⟨?_,fun f g e A n c el hm hA=>?_⟩⟩
  · have h1:H7.n≤B'.n:=ho.1
    omega
  · have hiN:i < N:=by omega
    have h1:B'.m i=(H7.set sb Y).m i:=ho.2 i (show i < H7.n by omega)
    rw [h1]
    show (if i=sb then _ else H7.m i)=_
    rw [if_neg (by omega),hoff7 i (by omega) (fun e=>by have:=hA3 _ e;dsimp only at this;omega),hB7.2 i (by omega),hlow i hiN]
  · obtain ⟨h1,h2⟩:=hap i b hb he hx
    exact ⟨hkB i b h1 (by rw [he];decide) (by rw [he];decide),h2⟩
  · have h1:=hki i b hb he
    have h7:H7.m i=some b:=by rw [hoff7 i (hd7 _ _ (hup7 _ _ h1)) (hw3 i hx)];exact hup7 _ _ h1
    refine hup i b ?_
    show (if i=sb then _ else H7.m i)=_
    rw [if_neg (ne_of_elem h7 hS7 (by rw [hS7e,he];decide))]
    exact h7
  · have hYm:B'.m sb=some Y:=hup sb _ (by show (if sb=sb then _ else _)=_;rw [if_pos rfl])
    rw [hYm,hY] at hm
    injection hm with hm
    injection hm with hm _
    injection hm with hm
    simp only [List.cons.injEq,Value.slice.injEq] at hm
    have hAA:A7=A:=hm.2.2.2.1.1
    rw [← hAA] at hA
    rcases hA7 _ hA with e|e
    · exact hw3 i hx e
    · have:=hd i b hb
      dsimp only at e
      omega
set_option maxRecDepth 100000 in
theorem reach_new (sb fb ib nb:Nat) (al:List Nat) (n:Nat) (s:SolS) (k:Int) (l:List FactS) (ab c N:Nat) (h0:0≤k) (h1:k < n) (hnn:n≤100000) (hl:l.length≤1000000) (hw:s.work.length≤1000000000000) (hseen:s.seen[k.toNat]?=some false) (hlpos:0 < l.length) (h:Hp) (o:SolAt h N sb fb ib nb al n s) (hR:h.m ab=some ⟨⟨factsC l⟩,111⟩) :
    EX Try.prog 63 [.pointer (some ⟨sb,0,none⟩),.int .i64 k,.slice (some ⟨ab,0,none⟩) l.length c] h (fun v h'=>v=.tuple #[]∧ReachQ h N sb fb ib nb al n s (reachF l s k) h'):=by
  refine EX.intro (fn:=Try.f63) (c:=(Try.f63.body.getD .skip)) Try.func63 (by kernel_rfl) Try.ntmps63 (by kernel_rfl) fun π s0=>?_
  conv=>arg 2;whnf
  have hd:=s0.dom
  have hRn:=hd _ _ hR
  have hnat:k=(k.toNat:Int):=by omega
  have hlt:k.toNat < n:=by omega
  obtain ⟨A,cap,hS,hstk,hA⟩:=o.stk
  have hSn:=hd _ _ hS
  have hI:=o.hi
  have hIn:=hd _ _ hI
  have hNb:=o.hn
  have hNbn:=hd _ _ hNb
  have hIr:rwM≤ib:=Nat.le_trans o.rw o.gi
  have hNbr:rwM≤nb:=Nat.le_trans o.rw o.gn
  have hal:al.length=s.ins.length:=by rw [o.alen,o.ilen]
  have hil:=o.ilen
  have hsl:=o.slen
  have hwhole:takeV 0 (l.length * 2) (factsC l)=factsC l:=by rw [takeV_eq,List.drop_zero,List.take_of_length_le (by rw [factsC_length];exact Nat.le_refl _)]
  have hSr:rwM≤sb:=Nat.le_trans o.rw o.gs
  ((with_reducible apply W.seq);repeat (first|((with_reducible apply RS.load1B);(iterate 3 exact rfl);first|exact hS;exact hSn;exact rfl|exact hNb;exact hNbn;exact bools_get hseen)|((with_reducible apply RS.indexAddrS);(iterate 4 exact rfl);exact hnat;exact hlt)|((with_reducible first|apply RS.nilCheck|apply RS.move|apply RS.assign|apply RS.not|apply RS.fieldAddr);iterate 3 exact rfl)|((with_reducible apply RS.nil);exact mixed;kernel_rfl)|((with_reducible apply W.reg);kernel_rfl)|(with_reducible apply thenK_n)))
  ((with_reducible apply W.seq);repeat (fail))
  ((with_reducible apply W.seq);repeat (first|((with_reducible apply RS.load1B);(iterate 3 exact rfl);exact hS;exact hSn;exact rfl)|((with_reducible apply RS.indexAddrS);(iterate 4 exact rfl);exact hnat;exact hlt)|((with_reducible apply RS.appendNilB);(iterate 6 exact rfl);exact hR;exact hRn;(rw [factsC_length];omega);exact hlpos;omega;omega;exact hwhole)|((with_reducible apply RS.storeB);(iterate 3 exact rfl);exact hI;exact hIn;exact hIr;(rw [rowsV_length hal];omega);(iterate 2 exact rfl);exact cells_set1 _ _ _)|((with_reducible first|apply RS.nilCheck|apply RS.move|apply RS.fieldAddr);iterate 3 exact rfl)|((with_reducible apply RS.nil);exact mixed;kernel_rfl)|((with_reducible apply W.reg);kernel_rfl)|((with_reducible apply W.condT);kernel_rfl;exact rfl)|(with_reducible apply thenK_n)))
  refine W.absorbX fun C π2 a2=>?_
  have hq:C.m (π 0)=some ⟨⟨factsC l⟩,111⟩:=a2.loc 0 (Nat.lt_succ_self 0)
  have hqn:h.n≤π 0:=a2.lo 0 (Nat.lt_succ_self 0)
  generalize π 0=q at *
  have hset:∀ i,i < h.n→C.m i=if i=ib then some ⟨⟨(rowsV al s.ins).set k.toNat (.slice (some ⟨q,0,none⟩) l.length (capOf 2))⟩,109⟩ else h.m i:=fun i hi=>a2.old i hi
  have hln:l≠[]:=List.length_pos_iff.1 hlpos
  have hCi:C.m ib=some ⟨⟨(rowsV al s.ins).set k.toNat (rowVl 2 q l)⟩,109⟩:=by
    rw [hset ib hIn,if_pos rfl,rowVl_ne hln]
  have hCk:∀ i b,h.m i=some b→b.elem≠109→C.m i=some b:=by
    intro i b hb he
    rw [hset i (hd i b hb),if_neg (ne_of_elem hb hI he)]
    exact hb
  have hNh:N≤h.n:=Nat.le_trans o.gs (Nat.le_of_lt hSn)
  have o2:=o.newRow (k:=k.toNat) (l:=l) hCi (fun _=>⟨Nat.le_trans hNh hqn,hq,fun b hb=>by have:=hd _ _ hb;omega⟩) hCk
  have hNb2:C.m nb=some ⟨⟨s.seen.map .bool⟩,4⟩:=o2.hn
  have hNb2n:=a2.dom _ _ hNb2
  obtain ⟨A2,cap2,hS2,hstk2,hA2⟩:=o2.stk
  have hS2:C.m sb=some ⟨⟨[.pointer (some ⟨fb,0,none⟩),.slice (some ⟨ib,0,none⟩) n n,.slice (some ⟨nb,0,none⟩) n n,.slice A2 s.work.length cap2]⟩,106⟩:=hS2
  have hS2n:=a2.dom _ _ hS2
  obtain ⟨X,hX⟩:∃ X:Blk,X=⟨⟨(s.seen.set k.toNat true).map .bool⟩,4⟩:=⟨_,rfl⟩
  have hXk:∀ i b,C.m i=some b→b.elem≠4→(C.set nb X).m i=some b:=fun i b hb he=>by
    show (if i=nb then _ else C.m i)=_
    rw [if_neg (ne_of_elem hb hNb2 he)];exact hb
  have o3:=o2.setSeen (t:=s.seen.set k.toNat true) (by rw [List.length_set];exact hsl) (show (C.set nb X).m nb=_ by show (if nb=nb then _ else _)=_;rw [if_pos rfl,hX]) hXk
  obtain ⟨A3,cap3,hS3,hstk3,hA3⟩:=o3.stk
  have hS3:(C.set nb X).m sb=some ⟨⟨[.pointer (some ⟨fb,0,none⟩),.slice (some ⟨ib,0,none⟩) n n,.slice (some ⟨nb,0,none⟩) n n,.slice A3 s.work.length cap3]⟩,106⟩:=hS3
  have hstk3:StkRow (C.set nb X) 3 A3 cap3 (intsV s.work):=hstk3
  have hS3n:sb < (C.set nb X).n:=hS2n
  have hneS:A3≠some ⟨sb,0,none⟩:=stk_ne hstk3 hS3 (by simp)
  have hSS:(C.set nb X).m sb=h.m sb:=by rw [hXk sb _ (hCk sb _ hS (by simp)) (by simp),hS]
  ((with_reducible apply W.seq);repeat (first|((with_reducible apply RS.indexAddrS);(iterate 4 exact rfl);exact hnat;exact hlt)|((with_reducible apply RS.load1B);(iterate 3 exact rfl);exact hS2;exact hS2n;exact rfl)|((with_reducible apply RS.storeB);(iterate 3 exact rfl);exact hNb2;exact hNb2n;exact hNbr;(rw [List.length_map];omega);(iterate 2 exact rfl);exact bools_set _ _ _)|((with_reducible first|apply RS.nilCheck|apply RS.move|apply RS.fieldAddr);iterate 3 exact rfl)|((with_reducible apply RS.nil);exact mixed;kernel_rfl)|((with_reducible apply W.reg);kernel_rfl)|(with_reducible apply thenK_n)))
  rw [← hX]
  ((with_reducible apply W.seq);repeat (first|((with_reducible apply RS.buildSlice);iterate 8 exact rfl)|((with_reducible apply RS.pushStk (vs:=intsV s.work));(iterate 2 exact rfl);exact (congrArg (fun z=>some (Value.slice A3 z cap3)) (intsV_length s.work).symm);(iterate 2 exact rfl);exact fun B hB=>⟨hB.loc 0 (Nat.lt_succ_self 0),hstk3.up hB.up⟩;exact rfl;(simp only [intsV_length];omega);(simp only [intsV_length];omega);intro B7 hB7 A7 cap7 H7 π7 sH7 hst7 hle7 hoff7 hA7;have hS7:=(hoff7 sb (hB7.dom _ _ (hB7.up _ _ hS3)) hneS).trans (hB7.up _ _ hS3);have hS7n:=sH7.dom _ _ hS7)|((with_reducible apply RS.load1B);(iterate 3 exact rfl);exact hS3;exact hS3n;exact rfl)|((with_reducible apply RS.storeB);(iterate 3 exact rfl);exact hS7;exact hS7n;exact hSr;exact Nat.le_of_ble_eq_true rfl;iterate 3 exact rfl)|((with_reducible first|apply RS.nilCheck|apply RS.move|apply RS.fieldAddr);iterate 3 exact rfl)|((with_reducible apply RS.nil);exact mixed;kernel_rfl)|((with_reducible apply W.reg);kernel_rfl)|((with_reducible apply W.condT);kernel_rfl;exact rfl)|(with_reducible apply thenK_n)))
  have e:reachF l s k=⟨s.ins.set k.toNat l,s.seen.set k.toNat true,k::s.work⟩:=by unfold reachF;rw [hseen];rfl
  rw [e]
  refine endsK_normal [] .nil fun B' a=>⟨rfl,?_⟩
  refine reach_close (t:=⟨s.ins.set k.toNat l,s.seen.set k.toNat true,s.work⟩) hd (show h.n≤(C.set nb X).n from a2.le) o3 (fun i hi=>?_) (fun i b hb he hx=>⟨?_,fun j m h1 h2=>?_⟩) hNh (fun i b hb he=>hXk i b (hCk i b hb (by rw [he];decide)) (by rw [he];decide)) (fun i hx=>hx _ _ _ _ _ _ _ (hSS ▸ hS3)) hstk3 hA3 hB7.up hB7.oldH hB7.dom (intsV_cons k s.work).symm hst7 hle7 hoff7 hA7 ⟨_,hS7,rfl⟩ (by rw [← intsV_length s.work];rfl) a.up a.oldH
  · have hgi:=o.gi
    have hgn:=o.gn
    show (if i=nb then _ else C.m i)=_
    rw [if_neg (by omega),hset i (by omega),if_neg (by omega)]
  · exact hXk i b (hCk i b hb (by rw [he];decide)) (by rw [he];decide)
  · have hi:=hd i b hb
    rcases set_get h1 with ⟨e1,e2⟩|⟨e1,e2⟩
    · omega
    · rcases set_get h2 with ⟨f1,_⟩|⟨_,f2⟩
      · exact absurd f1 e1
      · exact hx j m e2 f2
set_option maxRecDepth 100000 in
theorem reach_nil (sb fb ib nb:Nat) (al:List Nat) (n:Nat) (s:SolS) (k:Int) (A0:Option Addr) (c N:Nat) (h0:0≤k) (h1:k < n) (hnn:n≤100000) (hw:s.work.length≤1000000000000) (hseen:s.seen[k.toNat]?=some false) (h:Hp) (o:SolAt h N sb fb ib nb al n s) :
    EX Try.prog 63 [.pointer (some ⟨sb,0,none⟩),.int .i64 k,.slice A0 0 c] h (fun v h'=>v=.tuple #[]∧ReachQ h N sb fb ib nb al n s (reachF [] s k) h'):=by
  refine EX.intro (fn:=Try.f63) (c:=(Try.f63.body.getD .skip)) Try.func63 (by kernel_rfl) Try.ntmps63 (by kernel_rfl) fun π s0=>?_
  conv=>arg 2;whnf
  have hd:=s0.dom
  have hnat:k=(k.toNat:Int):=by omega
  have hlt:k.toNat < n:=by omega
  obtain ⟨A,cap,hS,hstk,hA⟩:=o.stk
  have hSn:=hd _ _ hS
  have hI:=o.hi
  have hIn:=hd _ _ hI
  have hNb:=o.hn
  have hNbn:=hd _ _ hNb
  have hIr:rwM≤ib:=Nat.le_trans o.rw o.gi
  have hNbr:rwM≤nb:=Nat.le_trans o.rw o.gn
  have hal:al.length=s.ins.length:=by rw [o.alen,o.ilen]
  have hil:=o.ilen
  have hsl:=o.slen
  have hSr:rwM≤sb:=Nat.le_trans o.rw o.gs
  ((with_reducible apply W.seq);repeat (first|((with_reducible apply RS.load1B);(iterate 3 exact rfl);first|exact hS;exact hSn;exact rfl|exact hNb;exact hNbn;exact bools_get hseen)|((with_reducible apply RS.indexAddrS);(iterate 4 exact rfl);exact hnat;exact hlt)|((with_reducible first|apply RS.nilCheck|apply RS.move|apply RS.assign|apply RS.not|apply RS.fieldAddr);iterate 3 exact rfl)|((with_reducible apply RS.nil);exact mixed;kernel_rfl)|((with_reducible apply W.reg);kernel_rfl)|(with_reducible apply thenK_n)))
  ((with_reducible apply W.seq);repeat (fail))
  ((with_reducible apply W.seq);repeat (first|((with_reducible apply RS.load1B);(iterate 3 exact rfl);exact hS;exact hSn;exact rfl)|((with_reducible apply RS.indexAddrS);(iterate 4 exact rfl);exact hnat;exact hlt)|((with_reducible apply RS.storeB);(iterate 3 exact rfl);exact hI;exact hIn;exact hIr;(rw [rowsV_length hal];omega);(iterate 2 exact rfl);exact cells_set1 _ _ _)|((with_reducible apply RS.appendNil0);iterate 6 exact rfl)|((with_reducible first|apply RS.nilCheck|apply RS.move|apply RS.fieldAddr);iterate 3 exact rfl)|((with_reducible apply RS.nil);exact mixed;kernel_rfl)|((with_reducible apply W.reg);kernel_rfl)|((with_reducible apply W.condT);kernel_rfl;exact rfl)|(with_reducible apply thenK_n)))
  refine W.absorbX fun C π2 a2=>?_
  have hset:∀ i,i < h.n→C.m i=if i=ib then some ⟨⟨(rowsV al s.ins).set k.toNat (.slice none 0 0)⟩,109⟩ else h.m i:=fun i hi=>a2.old i hi
  have hCi:C.m ib=some ⟨⟨(rowsV al s.ins).set k.toNat (rowVl 2 0 ([]:List FactS))⟩,109⟩:=by
    rw [hset ib hIn,if_pos rfl];rfl
  have hCk:∀ i b,h.m i=some b→b.elem≠109→C.m i=some b:=by
    intro i b hb he
    rw [hset i (hd i b hb),if_neg (ne_of_elem hb hI he)]
    exact hb
  have hNh:N≤h.n:=Nat.le_trans o.gs (Nat.le_of_lt hSn)
  have o2:=o.newRow (k:=k.toNat) (l:=[]) hCi (fun hn=>absurd rfl hn) hCk
  have hNb2:C.m nb=some ⟨⟨s.seen.map .bool⟩,4⟩:=o2.hn
  have hNb2n:=a2.dom _ _ hNb2
  obtain ⟨A2,cap2,hS2,hstk2,hA2⟩:=o2.stk
  have hS2:C.m sb=some ⟨⟨[.pointer (some ⟨fb,0,none⟩),.slice (some ⟨ib,0,none⟩) n n,.slice (some ⟨nb,0,none⟩) n n,.slice A2 s.work.length cap2]⟩,106⟩:=hS2
  have hS2n:=a2.dom _ _ hS2
  obtain ⟨X,hX⟩:∃ X:Blk,X=⟨⟨(s.seen.set k.toNat true).map .bool⟩,4⟩:=⟨_,rfl⟩
  have hXk:∀ i b,C.m i=some b→b.elem≠4→(C.set nb X).m i=some b:=fun i b hb he=>by
    show (if i=nb then _ else C.m i)=_
    rw [if_neg (ne_of_elem hb hNb2 he)];exact hb
  have o3:=o2.setSeen (t:=s.seen.set k.toNat true) (by rw [List.length_set];exact hsl) (show (C.set nb X).m nb=_ by show (if nb=nb then _ else _)=_;rw [if_pos rfl,hX]) hXk
  obtain ⟨A3,cap3,hS3,hstk3,hA3⟩:=o3.stk
  have hS3:(C.set nb X).m sb=some ⟨⟨[.pointer (some ⟨fb,0,none⟩),.slice (some ⟨ib,0,none⟩) n n,.slice (some ⟨nb,0,none⟩) n n,.slice A3 s.work.length cap3]⟩,106⟩:=hS3
  have hstk3:StkRow (C.set nb X) 3 A3 cap3 (intsV s.work):=hstk3
  have hS3n:sb < (C.set nb X).n:=hS2n
  have hneS:A3≠some ⟨sb,0,none⟩:=stk_ne hstk3 hS3 (by simp)
  have hSS:(C.set nb X).m sb=h.m sb:=by rw [hXk sb _ (hCk sb _ hS (by simp)) (by simp),hS]
  ((with_reducible apply W.seq);repeat (first|((with_reducible apply RS.indexAddrS);(iterate 4 exact rfl);exact hnat;exact hlt)|((with_reducible apply RS.load1B);(iterate 3 exact rfl);exact hS2;exact hS2n;exact rfl)|((with_reducible apply RS.storeB);(iterate 3 exact rfl);exact hNb2;exact hNb2n;exact hNbr;(rw [List.length_map];omega);(iterate 2 exact rfl);exact bools_set _ _ _)|((with_reducible first|apply RS.nilCheck|apply RS.move|apply RS.fieldAddr);iterate 3 exact rfl)|((with_reducible apply RS.nil);exact mixed;kernel_rfl)|((with_reducible apply W.reg);kernel_rfl)|(with_reducible apply thenK_n)))
  rw [← hX]
  ((with_reducible apply W.seq);repeat (first|((with_reducible apply RS.buildSlice);iterate 8 exact rfl)|((with_reducible apply RS.pushStk (vs:=intsV s.work));(iterate 2 exact rfl);exact (congrArg (fun z=>some (Value.slice A3 z cap3)) (intsV_length s.work).symm);(iterate 2 exact rfl);exact fun B hB=>⟨hB.loc 0 (Nat.lt_succ_self 0),hstk3.up hB.up⟩;exact rfl;(simp only [intsV_length];omega);(simp only [intsV_length];omega);intro B7 hB7 A7 cap7 H7 π7 sH7 hst7 hle7 hoff7 hA7;have hS7:=(hoff7 sb (hB7.dom _ _ (hB7.up _ _ hS3)) hneS).trans (hB7.up _ _ hS3);have hS7n:=sH7.dom _ _ hS7)|((with_reducible apply RS.load1B);(iterate 3 exact rfl);exact hS3;exact hS3n;exact rfl)|((with_reducible apply RS.storeB);(iterate 3 exact rfl);exact hS7;exact hS7n;exact hSr;exact Nat.le_of_ble_eq_true rfl;iterate 3 exact rfl)|((with_reducible first|apply RS.nilCheck|apply RS.move|apply RS.fieldAddr);iterate 3 exact rfl)|((with_reducible apply RS.nil);exact mixed;kernel_rfl)|((with_reducible apply W.reg);kernel_rfl)|((with_reducible apply W.condT);kernel_rfl;exact rfl)|(with_reducible apply thenK_n)))
  have e:reachF [] s k=⟨s.ins.set k.toNat [],s.seen.set k.toNat true,k::s.work⟩:=by unfold reachF;rw [hseen];rfl
  rw [e]
  refine endsK_normal [] .nil fun B' a=>⟨rfl,?_⟩
  refine reach_close (t:=⟨s.ins.set k.toNat [],s.seen.set k.toNat true,s.work⟩) hd (show h.n≤(C.set nb X).n from a2.le) o3 (fun i hi=>?_) (fun i b hb he hx=>⟨?_,fun j m h1 h2=>?_⟩) hNh (fun i b hb he=>hXk i b (hCk i b hb (by rw [he];decide)) (by rw [he];decide)) (fun i hx=>hx _ _ _ _ _ _ _ (hSS ▸ hS3)) hstk3 hA3 hB7.up hB7.oldH hB7.dom (intsV_cons k s.work).symm hst7 hle7 hoff7 hA7 ⟨_,hS7,rfl⟩ (by rw [← intsV_length s.work];rfl) a.up a.oldH
  · have hgi:=o.gi
    have hgn:=o.gn
    show (if i=nb then _ else C.m i)=_
    rw [if_neg (by omega),hset i (by omega),if_neg (by omega)]
  · exact hXk i b (hCk i b hb (by rw [he];decide)) (by rw [he];decide)
  · have hi:=hd i b hb
    rcases set_get h1 with ⟨e1,e2⟩|⟨e1,e2⟩
    · rcases set_get h2 with ⟨_,f1⟩|⟨f1,_⟩
      · exact f1
      · exact absurd e1 f1
    · rcases set_get h2 with ⟨f1,_⟩|⟨_,f2⟩
      · exact absurd f1 e1
      · exact hx j m e2 f2
end Go.Proofs.Ytjhloakacicdiaa
namespace Go.Proofs.Ytjhloakacicdiaa
open Go.AH
attribute [local irreducible] W RS
theorem eq_facts (a b:FactS):eqVs [.int .i64,.int .i64] (factC a) (factC b)=some (sameF a b):=by
  unfold factC sameF
  show some ((a.kind == b.kind) && ((a.n == b.n) && true))=_
  rw [Bool.and_true]
  congr 1
structure MixI (h:Hp) (q:Nat) (a l:List FactS) (i:Nat) (B:Hp):Prop where
  off:OffS (fun j=>j=q∧l≠[]) h B
  row:l≠[]→B.m q=some ⟨⟨factsC (meetL a (l.take i))⟩,111⟩
set_option maxRecDepth 100000 in
theorem reach_seen (sb fb ib nb:Nat) (al:List Nat) (n:Nat) (s:SolS) (k:Int) (l:List FactS) (A0:Option Addr) (c N:Nat) (h0:0≤k) (h1:k < n) (hnn:n≤100000) (hl:l.length≤1000000) (hw:s.work.length≤1000000000000) (hseen:s.seen[k.toNat]?=some true) (a:List FactS) (ha:s.ins[k.toNat]?=some a) (hal0:a.length=l.length) (h:Hp) (o:SolAt h N sb fb ib nb al n s) (hs:FaAt h A0 l) (hap:∀ x,A0=some x→ApartF al s.ins x.block) :
    EX Try.prog 63 [.pointer (some ⟨sb,0,none⟩),.int .i64 k,.slice A0 l.length c] h (fun v h'=>v=.tuple #[]∧ReachQ h N sb fb ib nb al n s (reachF l s k) h'):=by
  refine EX.intro (fn:=Try.f63) (c:=(Try.f63.body.getD .skip)) Try.func63 (by kernel_rfl) Try.ntmps63 (by kernel_rfl) fun π s0=>?_
  conv=>arg 2;whnf
  have hd:=s0.dom
  have hnat:k=(k.toNat:Int):=by omega
  have hlt:k.toNat < n:=by omega
  obtain ⟨A,cap,hS0,hstk,hA⟩:=o.stk
  have hS0n:=hd _ _ hS0
  obtain ⟨q,hq⟩:∃ q,al[k.toNat]?=some q:=⟨_,List.getElem?_eq_getElem (by rw [o.alen];exact hlt)⟩
  have hrow0:=rowsV_get hq ha
  have hsl:=o.slen
  have hSr:rwM≤sb:=Nat.le_trans o.rw o.gs
  have hNbr:rwM≤nb:=Nat.le_trans o.rw o.gn
  have hQr0:l≠[]→rwM≤q∧h.m q=some ⟨⟨factsC a⟩,111⟩:=fun hn=>by
    have:=o.row _ _ _ hq ha (fun e=>hn (by rw [e] at hal0;exact List.length_eq_zero_iff.1 hal0.symm))
    exact ⟨Nat.le_trans o.rw this.1,this.2⟩
  have keep:∀ {B:Hp} {i:Nat},MixI h q a l i B→∀ j b,h.m j=some b→b.elem≠111→B.m j=some b:=by
    intro B i hI j b hb he
    rw [hI.off.2 j (hd j b hb) (fun e=>ne_of_elem hb (hQr0 e.2).2 he e.1)]
    exact hb
  have hS:=hS0
  have hSn:=hS0n
  have hNb:=o.hn
  have hNbn:=hd _ _ hNb
  repeat (first|((with_reducible apply RS.load1B);(iterate 3 exact rfl);first|exact hS;exact hSn;exact rfl|exact hNb;exact hNbn;exact bools_get hseen)|((with_reducible apply RS.indexAddrS);(iterate 4 exact rfl);exact hnat;exact hlt)|((with_reducible first|apply RS.nilCheck|apply RS.move|apply RS.assign|apply RS.lenSl|apply RS.not|apply RS.fieldAddr);iterate 3 exact rfl)|((with_reducible apply RS.nil);exact mixed;kernel_rfl)|(with_reducible first|apply W.seq|apply W.block|apply thenK_n)|((with_reducible apply W.reg);kernel_rfl)|((with_reducible apply W.condF);kernel_rfl;exact rfl))
  refine W.loopN (X:=Nat) (fun i=>[(0,.pointer (some ⟨sb,0,none⟩)),(1,.int .i64 k),(2,.slice A0 l.length c),(27,.int .i64 (l.length:Int)),(28,.int .i64 (i:Int)),(6,.bool (!sameL (meetL a (l.take i)) a))])
    (fun i B=>i≤l.length∧MixI h q a l i B) (fun i=>l.length - i)
    (fun B' x=>⟨0,?_,⟨Nat.zero_le _,⟨x.oldH.off,fun hn=>?_⟩⟩⟩) ?_
  · have e0:meetL a (l.take 0)=a:=by cases a<;>rfl
    have e1:sameL a a=true:=(sameL_iff rfl).2 rfl
    rw [e0,e1]
    (repeat' (first|exact trivial|exact rfl|apply And.intro));done
  · have e0:meetL a (l.take 0)=a:=by cases a<;>rfl
    rw [e0]
    exact x.up _ _ (hQr0 hn).2
  rintro i B π1 sB ⟨hi,hM⟩
  have hS:=keep hM _ _ hS0 (by simp)
  have hSn:=sB.dom _ _ hS
  have hI:=keep hM _ _ o.hi (by simp)
  have hIn:=sB.dom _ _ hI
  by_cases hlt2:i < l.length
  · have hln:l≠[]:=by intro e;rw [e] at hlt2;exact absurd hlt2 (Nat.not_lt_zero _)
    have han:a≠[]:=by intro e;rw [e] at hal0;exact hln (List.length_eq_zero_iff.1 hal0.symm)
    obtain ⟨fa,hfa⟩:∃ f,a[i]?=some f:=⟨_,List.getElem?_eq_getElem (by omega)⟩
    obtain ⟨fl,hfl⟩:∃ f,l[i]?=some f:=⟨_,List.getElem?_eq_getElem hlt2⟩
    have hcur:=meetL_take_at (l:=l) hfa
    have hcl:i < (meetL a (l.take i)).length:=by rw [meetL_length];omega
    have hQ:=hM.row hln
    have hQn:=sB.dom _ _ hQ
    have hQr:=(hQr0 hln).1
    have hle:0+i * 2+2≤(factsC (meetL a (l.take i))).length:=by rw [factsC_length,meetL_length];omega
    have hleR:0+i * 2+2≤(factsC l).length:=by rw [factsC_length];omega
    have hrow:(rowsV al s.ins)[k.toNat]?=some (.slice (some ⟨q,0,none⟩) a.length (capOf 2)):=by rw [hrow0,rowVl_ne han]
    have hsame:=eq_facts (meetF fa fl) fa
    have hss:=sameL_succ hfa hfl
    cases hs with
    | none=>exact absurd rfl hln
    | some hR0 hRr =>
      rename_i ab
      have hne:ab≠q:=by
        intro e
        have:=hap ⟨ab,0,none⟩ rfl k.toNat a (by rw [e];exact hq) ha
        exact han this
      have hR:B.m ab=some ⟨⟨factsC l⟩,111⟩:=by rw [hM.off.2 ab (hd _ _ hR0) (fun e=>hne e.1)];exact hR0
      have hRn:=sB.dom _ _ hR
      obtain ⟨sm,hsm⟩:∃ b,sameF (meetF fa fl) fa=b:=⟨_,rfl⟩
      rw [hsm] at hsame hss
      cases sm with
      | true =>
        repeat (first|((with_reducible apply RS.load1B);(iterate 3 exact rfl);first|exact hS;exact hSn;exact rfl|exact hI;exact hIn;exact cells_at hrow)|((with_reducible apply RS.indexAddrS);(iterate 4 exact rfl);exact hnat;exact hlt)|((with_reducible apply RS.indexAddrS);(iterate 5 exact rfl);omega)|((with_reducible apply RS.loadNB);(iterate 3 exact rfl);first|exact hQ;exact hQn;exact hle;exact factsC_at hcur|exact hR;exact hRn;exact hleR;exact factsC_at hfl)|((with_reducible apply RS.callP);(iterate 3 exact rfl);exact fun H=>meet_tf fa fl H;exact Nm_free (by simp [factC]))|((with_reducible apply RS.neqAgg);(iterate 4 exact rfl);exact hsame)|((with_reducible first|apply RS.nilCheck|apply RS.move|apply RS.assign|apply RS.fieldAddr);iterate 3 exact rfl)|((with_reducible apply RS.cmpT);(iterate 4 exact rfl);(simp only [cmpP];omega))|((with_reducible apply RS.add1);(iterate 4 exact rfl);omega)|((with_reducible apply RS.loadN);(iterate 5 exact rfl);exact Nat.le_of_ble_eq_true rfl)|((with_reducible apply RS.store);(iterate 5 exact rfl);exact Nat.le_of_ble_eq_true rfl;iterate 3 exact rfl)|((with_reducible apply RS.alloc);iterate 2 exact rfl)|((with_reducible apply RS.nil);exact mixed;kernel_rfl)|(with_reducible first|apply W.seq|apply W.block|apply W.skip|apply thenK_n|apply blockK_n)|((with_reducible apply W.reg);kernel_rfl)|((with_reducible apply W.condT);kernel_rfl;exact rfl)|((with_reducible apply W.condF);kernel_rfl;exact rfl))
        refine roundN_n rfl fun B' x=>⟨i+1,?_,⟨hlt2,⟨hM.off.same x.oldH.off,fun hn=>?_⟩⟩,by omega⟩
        · rw [hss,Bool.and_true]
          (repeat' (first|exact trivial|exact rfl|apply And.intro));done
        · rw [meetL_take_succ hfa hfl,sameF_iff.1 hsm,set_same hcur]
          exact x.up _ _ hQ
      | false =>
        repeat (first|((with_reducible apply RS.load1B);(iterate 3 exact rfl);first|exact hS;exact hSn;exact rfl|exact hI;exact hIn;exact cells_at hrow)|((with_reducible apply RS.indexAddrS);(iterate 4 exact rfl);exact hnat;exact hlt)|((with_reducible apply RS.indexAddrS);(iterate 5 exact rfl);omega)|((with_reducible apply RS.loadNB);(iterate 3 exact rfl);first|exact hQ;exact hQn;exact hle;exact factsC_at hcur|exact hR;exact hRn;exact hleR;exact factsC_at hfl)|((with_reducible apply RS.callP);(iterate 3 exact rfl);exact fun H=>meet_tf fa fl H;exact Nm_free (by simp [factC]))|((with_reducible apply RS.neqAgg);(iterate 4 exact rfl);exact hsame)|((with_reducible apply RS.storeB);(iterate 3 exact rfl);exact hQ;exact hQn;exact hQr;exact hle;(iterate 2 exact rfl);exact factsC_set (f:=meetF fa fl) hcl)|((with_reducible first|apply RS.nilCheck|apply RS.move|apply RS.assign|apply RS.fieldAddr);iterate 3 exact rfl)|((with_reducible apply RS.cmpT);(iterate 4 exact rfl);(simp only [cmpP];omega))|((with_reducible apply RS.add1);(iterate 4 exact rfl);omega)|((with_reducible apply RS.loadN);(iterate 5 exact rfl);exact Nat.le_of_ble_eq_true rfl)|((with_reducible apply RS.store);(iterate 5 exact rfl);exact Nat.le_of_ble_eq_true rfl;iterate 3 exact rfl)|((with_reducible apply RS.alloc);iterate 2 exact rfl)|((with_reducible apply RS.nil);exact mixed;kernel_rfl)|(with_reducible first|apply W.seq|apply W.block|apply W.skip|apply thenK_n|apply blockK_n)|((with_reducible apply W.reg);kernel_rfl)|((with_reducible apply W.condT);kernel_rfl;exact rfl))
        refine roundN_n rfl fun B' x=>⟨i+1,?_,⟨hlt2,⟨(hM.off.trans (OffS.set B q _) fun j _ e=>⟨e,hln⟩).same x.oldH.off,fun hn=>?_⟩⟩,by omega⟩
        · rw [hss,Bool.and_false]
          (repeat' (first|exact trivial|exact rfl|apply And.intro));done
        · rw [meetL_take_succ hfa hfl]
          exact x.up _ _ (by show (if q=q then _ else _)=_;rw [if_pos rfl])
  · have hil:i=l.length:=by omega
    subst hil
    rw [List.take_length] at *
    have hNb:=keep hM _ _ o.hn (by simp)
    have hNbn:=sB.dom _ _ hNb
    have hNh:N≤h.n:=Nat.le_trans o.gs (Nat.le_of_lt hS0n)
    have oB:SolAt B N sb fb ib nb al n ⟨s.ins.set k.toNat (meetL a l),s.seen,s.work⟩:=by
      by_cases hln:l=[]
      · have han:a=[]:=by rw [hln] at hal0;exact List.length_eq_zero_iff.1 hal0
        have e:meetL a l=a:=by rw [han];cases l<;>rfl
        rw [e,set_same ha]
        exact o.up fun j b hb=>by rw [hM.off.2 j (hd j b hb) (fun e=>e.2 hln)];exact hb
      · have han:a≠[]:=by intro e;rw [e] at hal0;exact hln (List.length_eq_zero_iff.1 hal0.symm)
        have hr:=hM.row hln
        rw [List.take_length] at hr
        exact o.setRow hq ha han (meetL_length a l) hr fun j b hb _ hj=>by rw [hM.off.2 j (hd j b hb) (fun e=>hj e.1)];exact hb
    obtain ⟨X,hX⟩:∃ X:Blk,X=⟨⟨(s.seen.set k.toNat true).map .bool⟩,4⟩:=⟨_,rfl⟩
    have hXk:∀ i b,B.m i=some b→b.elem≠4→(B.set nb X).m i=some b:=fun i b hb he=>by
      show (if i=nb then _ else B.m i)=_
      rw [if_neg (ne_of_elem hb hNb he)];exact hb
    have o3:=oB.setSeen (t:=s.seen.set k.toNat true) (by rw [List.length_set];exact hsl) (show (B.set nb X).m nb=_ by show (if nb=nb then _ else _)=_;rw [if_pos rfl,hX]) hXk
    obtain ⟨A3,cap3,hS3,hstk3,hA3⟩:=o3.stk
    have hS3:(B.set nb X).m sb=some ⟨⟨[.pointer (some ⟨fb,0,none⟩),.slice (some ⟨ib,0,none⟩) n n,.slice (some ⟨nb,0,none⟩) n n,.slice A3 s.work.length cap3]⟩,106⟩:=hS3
    have hstk3:StkRow (B.set nb X) 3 A3 cap3 (intsV s.work):=hstk3
    have hS3n:sb < (B.set nb X).n:=hSn
    have hneS:A3≠some ⟨sb,0,none⟩:=stk_ne hstk3 hS3 (by simp)
    have hSS:(B.set nb X).m sb=h.m sb:=by rw [hXk sb _ hS (by simp),hS0]
    have hkI:∀ i b,h.m i=some b→b.elem=3→(B.set nb X).m i=some b:=fun i b hb he=>hXk i b (keep hM i b hb (by rw [he];decide)) (by rw [he];decide)
    have hlow:∀ i,i < N→(B.set nb X).m i=h.m i:=fun i hi=>by
      have hgn:=o.gn
      show (if i=nb then _ else B.m i)=_
      rw [if_neg (by omega),hM.off.2 i (by omega) (fun e=>by
        have hh:=(o.row _ _ _ hq ha (fun e'=>e.2 (by rw [e'] at hal0;exact List.length_eq_zero_iff.1 hal0.symm))).1
        omega)]
    have hapt:∀ i b,h.m i=some b→b.elem=111→ApartF al s.ins i→(B.set nb X).m i=some b∧ApartF al (s.ins.set k.toNat (meetL a l)) i:=fun i b hb he hx=>by
      refine ⟨hXk i b ?_ (by rw [he];decide),fun j m h1 h2=>?_⟩
      · rw [hM.off.2 i (hd i b hb) (fun e=>by
          have:=hx k.toNat a (by rw [e.1];exact hq) ha
          rw [this] at hal0
          exact e.2 (List.length_eq_zero_iff.1 hal0.symm))]
        exact hb
      · rcases set_get h2 with ⟨f1,f2⟩|⟨f1,f2⟩
        · subst f1
          have:=hx k.toNat a h1 ha
          rw [f2,this];cases l<;>rfl
        · exact hx j m h1 f2
    obtain ⟨sm,hsm⟩:∃ b,sameL (meetL a l) a=b:=⟨_,rfl⟩
    rw [hsm]
    ((with_reducible apply W.seq);repeat (first|((with_reducible apply RS.cmpF);(iterate 4 exact rfl);(simp only [cmpN];omega))|((with_reducible apply RS.nil);exact mixed;kernel_rfl)|((with_reducible apply W.reg);kernel_rfl)|(with_reducible apply thenK_n)))
    ((with_reducible apply W.seq);repeat (first|(with_reducible first|apply W.exit|apply thenK_n|apply thenK_e|apply roundN_e)|((with_reducible apply W.condF);kernel_rfl;exact rfl)|((with_reducible apply blockK_hit);exact rfl)))
    ((with_reducible apply W.seq);repeat (first|((with_reducible apply RS.load1B);(iterate 3 exact rfl);exact hS;exact hSn;exact rfl)|((with_reducible apply RS.indexAddrS);(iterate 4 exact rfl);exact hnat;exact hlt)|((with_reducible apply RS.storeB);(iterate 3 exact rfl);exact hNb;exact hNbn;exact hNbr;(rw [List.length_map];omega);(iterate 2 exact rfl);exact bools_set _ _ _)|((with_reducible first|apply RS.nilCheck|apply RS.move|apply RS.fieldAddr);iterate 3 exact rfl)|((with_reducible apply RS.nil);exact mixed;kernel_rfl)|((with_reducible apply W.reg);kernel_rfl)|(with_reducible apply thenK_n)))
    rw [← hX]
    cases sm with
    | true =>
      repeat (first|((with_reducible apply RS.move);iterate 3 exact rfl)|((with_reducible apply RS.nil);exact mixed;kernel_rfl)|(with_reducible first|apply W.seq|apply W.skip|apply thenK_n)|((with_reducible apply W.reg);kernel_rfl)|((with_reducible apply W.condF);kernel_rfl;exact rfl))
      have hma:meetL a l=a:=(sameL_iff (meetL_length a l)).1 hsm
      have e:reachF l s k=s:=by unfold reachF;rw [hseen,ha];simp [hsm]
      rw [e]
      rw [hma,set_same ha] at hapt o3
      rw [set_same hseen] at o3
      refine endsK_normal [] .nil fun B' x=>⟨rfl,al,o3.up x.up,⟨?_,fun i hi hn=>?_⟩,fun i b hb he hx=>⟨x.up _ _ (hapt i b hb he hx).1,(hapt i b hb he hx).2⟩,fun i b hb he hx=>⟨x.up _ _ (hkI i b hb he),fun f g e A n c el hm=>?_⟩⟩
      · have h1:B.n≤B'.n:=x.le
        have h2:=hM.off.1
        omega
      · have h1:B'.m i=(B.set nb X).m i:=x.old i (show i < B.n by have:=hM.off.1;omega)
        rw [h1,hlow i (by omega)]
      · have h1:=x.up _ _ hS3
        rw [h1,← hS3,hSS] at hm
        exact hx _ _ _ _ _ _ _ hm
    | false =>
      repeat (first|((with_reducible apply RS.buildSlice);iterate 8 exact rfl)|((with_reducible apply RS.load1B);(iterate 3 exact rfl);exact hS3;exact hS3n;exact rfl)|((with_reducible apply RS.pushStk (vs:=intsV s.work));(iterate 2 exact rfl);exact (congrArg (fun z=>some (Value.slice A3 z cap3)) (intsV_length s.work).symm);(iterate 2 exact rfl);exact fun B hB=>⟨hB.loc 0 (Nat.lt_succ_self 0),hstk3.up hB.up⟩;exact rfl;(simp only [intsV_length];omega);(simp only [intsV_length];omega);intro B7 hB7 A7 cap7 H7 π7 sH7 hst7 hle7 hoff7 hA7;have hS7:=(hoff7 sb (hB7.dom _ _ (hB7.up _ _ hS3)) hneS).trans (hB7.up _ _ hS3);have hS7n:=sH7.dom _ _ hS7)|((with_reducible apply RS.storeB);(iterate 3 exact rfl);exact hS7;exact hS7n;exact hSr;exact Nat.le_of_ble_eq_true rfl;iterate 3 exact rfl)|((with_reducible first|apply RS.nilCheck|apply RS.move|apply RS.fieldAddr);iterate 3 exact rfl)|((with_reducible apply RS.nil);exact mixed;kernel_rfl)|(with_reducible first|apply W.seq|apply thenK_n)|((with_reducible apply W.reg);kernel_rfl)|((with_reducible apply W.condT);kernel_rfl;exact rfl))
      have e:reachF l s k=⟨s.ins.set k.toNat (meetL a l),s.seen.set k.toNat true,k::s.work⟩:=by unfold reachF;rw [hseen,ha,set_same hseen];simp [hsm]
      rw [e]
      refine endsK_normal [] .nil fun B' x=>⟨rfl,?_⟩
      exact reach_close (t:=⟨s.ins.set k.toNat (meetL a l),s.seen.set k.toNat true,s.work⟩) hd (show h.n≤(B.set nb X).n from hM.off.1) o3 hlow hapt hNh hkI (fun i hx=>hx _ _ _ _ _ _ _ (hSS ▸ hS3)) hstk3 hA3 hB7.up hB7.oldH hB7.dom (intsV_cons k s.work).symm hst7 hle7 hoff7 hA7 ⟨_,hS7,rfl⟩ (by rw [← intsV_length s.work];rfl) x.up x.oldH
end Go.Proofs.Ytjhloakacicdiaa
namespace Go.Proofs.Ytjhloakacicdiaa
open Go.AH
attribute [local irreducible] W RS
def FitF (l:List FactS):Prop:=∀ f∈l,fitI f.n
theorem fit0:fitI 0:=⟨by omega,by omega⟩
theorem ofF_fit {l:List FactS} (hl:FitF l) {a:ArgS} (ha:fitI a.num):fitI (ofF l a).n:=by
  unfold ofF
  split
  · exact ha
  · cases h:l[a.reg.toNat]? with
    | none=>exact fit0
    | some f=>exact hl f (List.mem_of_getElem? h)
theorem resultF_fit {l:List FactS} (hl:FitF l) {x:InsS} (hx:x.ok):fitI (resultF l x).n:=by
  have ha:=ofF_fit hl hx.a.2
  have hb:=ofF_fit hl hx.b.2
  unfold resultF twoF
  repeat' split
  all_goals first|exact ha|exact fit_widen ha|exact fit0|exact fit_reckon ha
theorem stepF_fit {l:List FactS} (hl:FitF l) {x:InsS} (hx:x.ok):FitF (stepF l x):=by
  unfold stepF
  split
  · intro f hf
    rcases List.mem_or_eq_of_mem_set hf with h|h
    · exact hl f h
    · rw [h];exact resultF_fit hl hx
  · exact hl
theorem stepsF_fit:∀ (xs:List InsS) (l:List FactS),FitF l→(∀ x∈xs,x.ok)→FitF (xs.foldl stepF l)
  | [],_,hl,_=>hl
  | x::xs,l,hl,hx=>stepsF_fit xs (stepF l x) (stepF_fit hl (hx x (by simp))) fun y hy=>hx y (by simp [hy])
theorem meetF_fit {a b:FactS} (ha:fitI a.n) (hb:fitI b.n):fitI (meetF a b).n:=by
  unfold meetF
  repeat' split
  all_goals first|exact ha|exact hb|exact fit0
theorem meetL_fit:∀ {l m:List FactS},FitF l→FitF m→FitF (meetL l m)
  | a::l,b::m,hl,hm=>by
    intro f hf
    rw [meetL] at hf
    rcases List.mem_cons.1 hf with e|e
    · rw [e];exact meetF_fit (hl a (by simp)) (hm b (by simp))
    · exact meetL_fit (fun g hg=>hl g (by simp [hg])) (fun g hg=>hm g (by simp [hg])) f e
  | [],_,hl,_=>by simpa [meetL] using hl
  | _::_,[],hl,_=>by simpa [meetL] using hl
set_option maxRecDepth 100000 in
theorem result_tf (l:List FactS) (A:Option Addr) (c:Nat) (x:InsS) (A2:Option Addr) (c2:Nat) (hl:l.length≤1000000000) (hfl:FitF l) (hx:x.ok) (h:Hp) (hs:FaAt h A l):TF Try.prog 50 ⟨[.slice A l.length c,.agg ⟨insC x A2 c2⟩]⟩ h (.agg ⟨factC (resultF l x)⟩) h:=by
  refine TF.dom fun hd=>?_
  have hfb:=ofF_fit hfl hx.b.2
  refine TF.still (fn:=Try.f50) (c:=(Try.f50.body.getD .skip)) Try.func50 (by kernel_rfl) Try.ntmps50 (by kernel_rfl) (by simp [factC]) ?_
  conv=>arg 2;whnf
  repeat' (first|((with_reducible apply RS.callB);(iterate 3 exact rfl);exact fun H hH=>of_tf l A c _ hl H (hs.up (base_up hd hH));exact Nm_free (by simp [factC]))|((with_reducible apply RS.callP);(iterate 3 exact rfl);first|exact fun H=>(two_tf _ H);exact Nm_free (by simp)|exact fun H=>(widen_tf _ _ _ H);exact Nm_free (by simp)|exact fun H=>reckon_tf _ _ _ hfb.1 hfb.2 H;exact Nm_free (by simp))|((with_reducible first|apply RS.move|apply RS.assign|apply RS.fieldAddr|apply RS.box);iterate 3 exact rfl)|((with_reducible apply RS.pickT);iterate 4 exact rfl)|((with_reducible apply RS.pickF);iterate 4 exact rfl)|((with_reducible apply RS.cmpT);(iterate 4 exact rfl);(simp only [cmpP];omega))|((with_reducible apply RS.cmpF);(iterate 4 exact rfl);(simp only [cmpN];omega))|((with_reducible apply RS.cmpC);iterate 5 exact rfl)|((with_reducible first|apply RS.extract|apply RS.build);iterate 4 exact rfl)|((with_reducible apply RS.load1);iterate 6 exact rfl)|((with_reducible apply RS.loadN);(iterate 5 exact rfl);exact Nat.le_of_ble_eq_true rfl)|((with_reducible apply RS.store);(iterate 5 exact rfl);exact Nat.le_of_ble_eq_true rfl;iterate 3 exact rfl)|((with_reducible apply RS.alloc);iterate 2 exact rfl)|((with_reducible apply RS.skip);iterate 2 exact rfl)|((with_reducible apply RS.nil);exact mixed;kernel_rfl)|(with_reducible first|apply W.seq|apply W.block|apply W.ret|apply W.skip|apply thenK_n|apply thenK_r|apply blockK_n|apply blockK_r)|((with_reducible apply W.reg);kernel_rfl)|((with_reducible apply W.condT);kernel_rfl;exact rfl)|((with_reducible apply W.condF);kernel_rfl;exact rfl)|(((with_reducible apply RS.splitD);iterate 2 exact rfl)<;>intro _)|((((with_reducible apply RS.splitG);iterate 2 exact rfl)<;>intro _)<;>(fail_if_success cases ‹true=false›)<;>(fail_if_success cases ‹false=true›))|(((with_reducible apply W.condD);exact rfl)<;>intro _)|((((with_reducible apply W.cond);exact rfl)<;>intro _)<;>(fail_if_success cases ‹true=false›)<;>(fail_if_success cases ‹false=true›)))
  all_goals refine endsK_ret _ (.cons (.cellN rfl rfl rfl (Nat.le_of_ble_eq_true rfl)) .nil) ⟨rfl,?_⟩
  all_goals try simp only [bne_iff_ne,ne_eq,bne_eq_false_iff_eq] at *
  all_goals first
    | (have e : resultF l x = ofF l x.a := by unfold resultF; rw [if_pos (by omega)]
       rw [e];rfl)
    | (have e : resultF l x = numF (widenS (ofF l x.a).n x.size x.signed) := by unfold resultF; rw [if_neg (by omega), if_pos (by omega)]
       rw [e];rfl)
    | (have e : resultF l x = noF := by unfold resultF; rw [if_neg (by omega), if_neg (by omega), if_pos (by omega)]
       rw [e];rfl)
    | (have e : resultF l x = numF (reckonS x.op (ofF l x.a).n (ofF l x.b).n).1 := by unfold resultF twoF; rw [if_neg (by omega), if_neg (by omega), if_neg (by omega), if_pos (by assumption), if_pos (by omega), if_pos (by assumption)]
       rw [e];rfl)
    | (have e : resultF l x = anyF := by unfold resultF twoF; rw [if_neg (by omega), if_neg (by omega), if_neg (by omega), if_pos (by assumption), if_pos (by omega), if_neg (by simp_all)]
       rw [e];rfl)
    | (have e : resultF l x = noF := by unfold resultF twoF; rw [if_neg (by omega), if_neg (by omega), if_neg (by omega), if_pos (by assumption), if_neg (by omega), if_pos (by omega)]
       rw [e];rfl)
    | (have e : resultF l x = anyF := by unfold resultF twoF; rw [if_neg (by omega), if_neg (by omega), if_neg (by omega), if_pos (by assumption), if_neg (by omega), if_neg (by omega)]
       rw [e];rfl)
    | (have e : resultF l x = anyF := by unfold resultF; rw [if_neg (by omega), if_neg (by omega), if_neg (by omega), if_neg (by simp_all)]
       rw [e];rfl)
set_option maxRecDepth 100000 in
theorem step_tf (l:List FactS) (A:Option Addr) (c:Nat) (x:InsS) (A2:Option Addr) (c2:Nat) (hl:l.length≤1000000000) (hfl:FitF l) (hx:x.ok) (hdst:x.dst < l.length) (h:Hp) (hs:FaAt h A l):TF Try.prog 64 ⟨[.slice A l.length c,.agg ⟨insC x A2 c2⟩]⟩ h (.tuple #[]) (faH h A (stepF l x)):=by
  refine TF.exact (fn:=Try.f64) (c:=(Try.f64.body.getD .skip)) Try.func64 (by kernel_rfl) Try.ntmps64 (by kernel_rfl) (fun s0=>⟨(faH_ok s0 hs).1,by simp,(faH_ok s0 hs).2⟩) fun π s0=>?_
  conv=>arg 2;whnf
  have hd:=s0.dom
  by_cases h0:0≤x.dst
  · have hnat:x.dst=(x.dst.toNat:Int):=by omega
    have hlt:x.dst.toNat < l.length:=by omega
    have hle:0+x.dst.toNat * 2+2≤(factsC l).length:=by rw [factsC_length];omega
    have e:stepF l x=l.set x.dst.toNat (resultF l x):=by unfold stepF;rw [if_pos h0]
    rw [e]
    cases hs with
    | none=>exact absurd hlt (Nat.not_lt_zero _)
    | some hm hr =>
      rename_i b
      have hn:=hd _ _ hm
      have hs0:FaAt h (some ⟨b,0,none⟩) l:=.some hm hr
      repeat (first|((with_reducible apply RS.callB);(iterate 3 exact rfl);exact fun H hH=>result_tf l _ c x A2 c2 hl hfl hx H (hs0.up (base_up hd hH));exact Nm_free (by simp [factC]))|((with_reducible apply RS.indexAddrS);(iterate 4 exact rfl);exact hnat;exact hlt)|((with_reducible apply RS.storeB);(iterate 3 exact rfl);exact hm;exact hn;exact hr;exact hle;(iterate 2 exact rfl);exact factsC_set hlt)|((with_reducible first|apply RS.move|apply RS.fieldAddr|apply RS.box);iterate 3 exact rfl)|((with_reducible apply RS.cmpT);(iterate 4 exact rfl);(simp only [cmpP];omega))|((with_reducible apply RS.load1);iterate 6 exact rfl)|((with_reducible apply RS.loadN);(iterate 5 exact rfl);exact Nat.le_of_ble_eq_true rfl)|((with_reducible apply RS.nil);exact mixed;kernel_rfl)|(with_reducible first|apply W.seq|apply thenK_n)|((with_reducible apply W.reg);kernel_rfl)|((with_reducible apply W.condT);kernel_rfl;exact rfl))
      exact endsK_normal [] .nil (fun B' a=>⟨rfl,a.up⟩)
  · have e:stepF l x=l:=by unfold stepF;rw [if_neg h0]
    rw [e,faH_same hs]
    repeat (first|((with_reducible apply RS.cmpF);(iterate 4 exact rfl);(simp only [cmpN];omega))|((with_reducible first|apply RS.fieldAddr|apply RS.box);iterate 3 exact rfl)|((with_reducible apply RS.load1);iterate 6 exact rfl)|((with_reducible apply RS.nil);exact mixed;kernel_rfl)|(with_reducible first|apply W.seq|apply W.skip|apply thenK_n)|((with_reducible apply W.reg);kernel_rfl)|((with_reducible apply W.condF);kernel_rfl;exact rfl))
    repeat' ((first|(((with_reducible apply RS.splitD);iterate 2 exact rfl)<;>intro _)|((((with_reducible apply RS.splitG);iterate 2 exact rfl)<;>intro _)<;>(fail_if_success cases ‹true=false›)<;>(fail_if_success cases ‹false=true›))|(((with_reducible apply W.condD);exact rfl)<;>intro _)|((((with_reducible apply W.cond);exact rfl)<;>intro _)<;>(fail_if_success cases ‹true=false›)<;>(fail_if_success cases ‹false=true›)))<;>repeat (fail))
    all_goals exact endsK_normal [] .nil (fun B' a=>⟨rfl,a.up⟩)
theorem reach_ex (sb fb ib nb:Nat) (al:List Nat) (n:Nat) (s:SolS) (k:Int) (l:List FactS) (A0:Option Addr) (c N r:Nat) (h0:0≤k) (h1:k < n) (hnn:n≤100000) (hl:l.length≤1000000) (hw:s.work.length≤1000000000000) (w:SolW n r s) (hlr:l.length=r) (h:Hp) (o:SolAt h N sb fb ib nb al n s) (hs:FaAt h A0 l) (hap:∀ x,A0=some x→ApartF al s.ins x.block) :
    EX Try.prog 63 [.pointer (some ⟨sb,0,none⟩),.int .i64 k,.slice A0 l.length c] h (fun v h'=>v=.tuple #[]∧ReachQ h N sb fb ib nb al n s (reachF l s k) h'):=by
  obtain ⟨a,ha⟩:∃ a,s.ins[k.toNat]?=some a:=⟨_,List.getElem?_eq_getElem (by rw [o.ilen];omega)⟩
  rcases seen_some (l:=s.seen) (k:=k.toNat) (by rw [o.slen];omega) with hse|hse
  · exact reach_seen sb fb ib nb al n s k l A0 c N h0 h1 hnn hl hw hse a ha ((w.wid _ _ ha hse).trans hlr.symm) h o hs hap
  · by_cases hln:l=[]
    · subst hln
      exact reach_nil sb fb ib nb al n s k A0 c N h0 h1 hnn hw hse h o
    · cases hs with
      | none=>exact absurd rfl hln
      | some hm hr=>exact reach_new sb fb ib nb al n s k l _ c N h0 h1 hnn hl hw hse (List.length_pos_iff.2 hln) h o hm
end Go.Proofs.Ytjhloakacicdiaa
namespace Go.Proofs.Ytjhloakacicdiaa
open Go.AH
def WfF (l:List FactS):Prop:=∀ f∈l,f=anyF∨f.kind=1
theorem ofF_wf {l:List FactS} (hl:WfF l) (a:ArgS):ofF l a=anyF∨(ofF l a).kind=1:=by
  unfold ofF
  split
  · exact .inr rfl
  · cases h:l[a.reg.toNat]? with
    | none=>exact .inl rfl
    | some f=>exact hl f (List.mem_of_getElem? h)
theorem resultF_wf {l:List FactS} (hl:WfF l) (x:InsS):resultF l x=anyF∨(resultF l x).kind=1:=by
  have ha:=ofF_wf hl x.a
  have hb:=ofF_wf hl x.b
  have na:(ofF l x.a).kind≠0:=by
    rcases ha with e|e
    · rw [e];decide
    · omega
  unfold resultF
  split
  · exact ha
  · split
    · exact .inr rfl
    · split
      · rename_i h;exact absurd h.2 na
      · split
        · unfold twoF
          split
          · split
            · exact .inr rfl
            · exact .inl rfl
          · split
            · rename_i h1 h2
              rcases ha with e|e
              · exact absurd (by rw [e];rfl) h2.1
              · rcases hb with e'|e'
                · exact absurd (by rw [e'];rfl) h2.2
                · exact absurd ⟨e,e'⟩ h1
            · exact .inl rfl
        · exact .inl rfl
theorem stepF_wf {l:List FactS} (hl:WfF l) (x:InsS):WfF (stepF l x):=by
  unfold stepF
  split
  · intro f hf
    rcases List.mem_or_eq_of_mem_set hf with h|h
    · exact hl f h
    · rw [h];exact resultF_wf hl x
  · exact hl
theorem stepsF_wf:∀ (xs:List InsS) (l:List FactS),WfF l→WfF (xs.foldl stepF l)
  | [],_,hl=>hl
  | x::xs,l,hl=>stepsF_wf xs (stepF l x) (stepF_wf hl x)
def rankF (f:FactS):Nat:=if f.kind=1 then 1 else 0
def rankL (l:List FactS):Nat:=(l.map rankF).sum
theorem rankF_le (f:FactS):rankF f≤1:=by unfold rankF;split<;>omega
theorem rankL_le (l:List FactS):rankL l≤l.length:=by
  induction l with
  | nil=>exact Nat.le_refl _
  | cons f l ih =>
    unfold rankL at *
    have:=rankF_le f
    simp only [List.map_cons,List.sum_cons,List.length_cons]
    omega
theorem meetF_wf {a b:FactS} (ha:a=anyF∨a.kind=1) (hb:b=anyF∨b.kind=1):(meetF a b=anyF∨(meetF a b).kind=1)∧rankF (meetF a b)≤rankF a∧(meetF a b≠a→rankF (meetF a b) < rankF a):=by
  have na:a.kind≠0:=by
    rcases ha with e|e
    · rw [e];decide
    · omega
  have nb:b.kind≠0:=by
    rcases hb with e|e
    · rw [e];decide
    · omega
  unfold meetF
  rw [if_neg na,if_neg nb]
  split
  · exact ⟨ha,Nat.le_refl _,fun h=>absurd rfl h⟩
  · refine ⟨.inl rfl,Nat.zero_le _,fun h=>?_⟩
    rcases ha with e|e
    · exact absurd e.symm h
    · show 0 < rankF a
      unfold rankF
      rw [if_pos e];omega
theorem meetL_wf:∀ {l m:List FactS},WfF l→WfF m→WfF (meetL l m)∧rankL (meetL l m)≤rankL l∧(meetL l m≠l→rankL (meetL l m) < rankL l)
  | a::l,b::m,hl,hm=>by
    obtain ⟨h1,h2,h3⟩:=meetL_wf (l:=l) (m:=m) (fun f hf=>hl f (by simp [hf])) (fun f hf=>hm f (by simp [hf]))
    obtain ⟨g1,g2,g3⟩:=meetF_wf (hl a (by simp)) (hm b (by simp))
    unfold rankL at *
    rw [meetL]
    simp only [List.map_cons,List.sum_cons]
    refine ⟨fun f hf=>?_,by omega,fun hne=>?_⟩
    · rcases List.mem_cons.1 hf with e|e
      · rw [e];exact g1
      · exact h1 f e
    · by_cases e:meetF a b=a
      · have:meetL l m≠l:=fun e'=>hne (by rw [e,e'])
        have:=h3 this
        omega
      · have:=g3 e
        omega
  | [],_,hl,_=>by
    have e:meetL [] ‹List FactS›=[]:=by cases ‹List FactS›<;>rfl
    rw [e];exact ⟨hl,Nat.le_refl _,fun h=>absurd rfl h⟩
  | _::_,[],hl,_=>⟨hl,Nat.le_refl _,fun h=>absurd rfl h⟩
def costV (r:Nat):List (List FactS)→List Bool→List Nat
  | l::ls,b::bs=>(if b=true then rankL l else r+1)::costV r ls bs
  | _,_=>[]
theorem costV_get {r:Nat}:∀ {ls:List (List FactS)} {bs:List Bool} {i:Nat} {l:List FactS} {b:Bool},ls[i]?=some l→bs[i]?=some b→(costV r ls bs)[i]?=some (if b=true then rankL l else r+1)
  | _::_,_::_,0,_,_,h1,h2=>by
    simp only [List.getElem?_cons_zero,Option.some.injEq] at h1 h2
    subst h1;subst h2;rfl
  | _::_,_::_,i+1,_,_,h1,h2=>by
    rw [costV,List.getElem?_cons_succ]
    exact costV_get (by simpa using h1) (by simpa using h2)
  | [],_,_,_,_,h1,_=>by simp at h1
  | _::_,[],_,_,_,_,h2=>by simp at h2
theorem costV_set {r:Nat}:∀ {ls:List (List FactS)} {bs:List Bool} (i:Nat) (l:List FactS),ls.length=bs.length→costV r (ls.set i l) (bs.set i true)=(costV r ls bs).set i (rankL l)
  | [],[],_,_,_=>rfl
  | _::_,_::_,0,_,_=>rfl
  | _::ls,_::bs,i+1,l,h=>by simp [costV,costV_set (r:=r) (ls:=ls) (bs:=bs) i l (by simpa using h)]
def leftS (r:Nat) (s:SolS):Nat:=2 * (costV r s.ins s.seen).sum+s.work.length
structure GoodS (s:SolS):Prop where
  fit:∀ l∈s.ins,FitF l
  wf:∀ l∈s.ins,WfF l
theorem reachF_left {n r:Nat} {s:SolS} (w:SolW n r s) (g:GoodS s) {l:List FactS} (hl:l.length=r) (hf:FitF l) (hw:WfF l) {k:Int} (h0:0≤k) (h1:k < n):GoodS (reachF l s k)∧leftS r (reachF l s k)≤leftS r s:=by
  have hk:k.toNat < n:=by omega
  obtain ⟨a,ha⟩:∃ a,s.ins[k.toNat]?=some a:=⟨_,List.getElem?_eq_getElem (by rw [w.ins];exact hk)⟩
  have ham:=List.mem_of_getElem? ha
  have hlen:s.ins.length=s.seen.length:=by rw [w.ins,w.seen]
  unfold reachF
  rw [ha]
  rcases seen_some (l:=s.seen) (k:=k.toNat) (by rw [w.seen];exact hk) with hs|hs
  · rw [hs]
    simp only [Option.getD_some,if_pos]
    split
    · exact ⟨g,Nat.le_refl _⟩
    · rename_i hne
      obtain ⟨m1,m2,m3⟩:=meetL_wf (g.wf a ham) hw
      have hne:meetL a l≠a:=fun e=>hne ((sameL_iff (meetL_length a l)).2 e)
      refine ⟨⟨fun x hx=>?_,fun x hx=>?_⟩,?_⟩
      · rcases List.mem_or_eq_of_mem_set hx with h|h
        · exact g.fit x h
        · rw [h];exact meetL_fit (g.fit a ham) hf
      · rcases List.mem_or_eq_of_mem_set hx with h|h
        · exact g.wf x h
        · rw [h];exact m1
      · have hc:=costV_get (r:=r) ha hs
        have hset:=costV_set (r:=r) (ls:=s.ins) (bs:=s.seen) k.toNat (meetL a l) hlen
        rw [set_same hs] at hset
        have hsum:=sum_set (v:=rankL (meetL a l)) hc
        rw [if_pos rfl] at hsum
        have:=m3 hne
        unfold leftS
        simp only [hset,List.length_cons]
        omega
  · rw [hs]
    simp only [Option.getD_some,Bool.false_eq_true,if_false]
    refine ⟨⟨fun x hx=>?_,fun x hx=>?_⟩,?_⟩
    · rcases List.mem_or_eq_of_mem_set hx with h|h
      · exact g.fit x h
      · rw [h];exact hf
    · rcases List.mem_or_eq_of_mem_set hx with h|h
      · exact g.wf x h
      · rw [h];exact hw
    · have hc:=costV_get (r:=r) ha hs
      have hset:=costV_set (r:=r) (ls:=s.ins) (bs:=s.seen) k.toNat l hlen
      have hsum:=sum_set (v:=rankL l) hc
      rw [if_neg (by simp)] at hsum
      have:=rankL_le l
      unfold leftS
      simp only [hset,List.length_cons]
      omega
theorem leftS_pop {r:Nat} {s:SolS} {k:Int} {w:List Int} (h:s.work=k::w):leftS r ⟨s.ins,s.seen,w⟩+1=leftS r s:=by
  unfold leftS
  rw [h]
  simp only [List.length_cons]
  omega
theorem costV_le (r:Nat):∀ (ls:List (List FactS)) (bs:List Bool),(∀ l∈ls,l.length≤r)→(costV r ls bs).sum≤ls.length * (r+1)
  | [],_,_=>by simp [costV]
  | _::_,[],_=>by simp [costV]
  | l::ls,b::bs,h=>by
    have ih:=costV_le r ls bs fun x hx=>h x (by simp [hx])
    have h1:=rankL_le l
    have h2:=h l (by simp)
    rw [costV,List.sum_cons,List.length_cons,Nat.succ_mul]
    split<;>omega
end Go.Proofs.Ytjhloakacicdiaa
namespace Go.Proofs.Ytjhloakacicdiaa
open Go.AH
attribute [local irreducible] W RS
structure LeakS where
  kind:Int
  a:Int
  b:Int
structure RunS where
  fin:Int
  exit:Int
  out:List Int
  leaks:List LeakS
  steps:Int
  fuel:Int
  data:List Int
  stack:List Int
  sp:Int
  deep:Int
def leakW (x:LeakS):List Value:=[.int .i64 x.kind,.int .i64 x.a,.int .i64 x.b]
def intW (n:Int):List Value:=[.int .i64 n]
def bytesC (l:List Int):List Value:=l.map (.int .u8 ·)
def intsC (l:List Int):List Value:=l.map (.int .i64 ·)
def runC (pb:Nat) (s:RunS) (o l d t:Nat):List Value:=[.pointer (some ⟨pb,0,none⟩),.int .i64 s.fin,.int .i64 s.exit,rowVl 1 o s.out,rowVl 3 l s.leaks,.int .i64 s.steps,.int .i64 s.fuel,.slice (some ⟨d,0,none⟩) s.data.length s.data.length,.slice (some ⟨t,0,none⟩) s.stack.length s.stack.length,.int .i64 s.sp,.int .i64 s.deep]
def runL (pb:Nat) (s:RunS) (π:Nat→Nat):List (Nat × Option Blk):=[(0,some ⟨⟨runC pb s (π 1) (π 2) (π 3) (π 4)⟩,87⟩),(1,rowBk intW 2 s.out),(2,rowBk leakW 90 s.leaks),(3,some ⟨⟨bytesC s.data⟩,5⟩),(4,some ⟨⟨bytesC s.stack⟩,5⟩)]
set_option maxRecDepth 100000 in
theorem ok_tf (fin:Int) (cs:List Value) (xb:Nat) (h:Hp) (hM:h.m xb=some ⟨⟨cs⟩,87⟩) (hMc:cs[1]?=some (.int .i64 fin)):TF Try.prog 36 ⟨[.pointer (some ⟨xb,0,none⟩)]⟩ h (.bool (fin == 0)) h:=by
  refine TF.dom fun hd=>?_
  have hMn:=hd _ _ hM
  refine TF.still (fn:=Try.f36) (c:=(Try.f36.body.getD .skip)) Try.func36 (by kernel_rfl) Try.ntmps36 (by kernel_rfl) (by simp) ?_
  conv=>arg 2;whnf
  repeat (first|((with_reducible apply RS.load1B);(iterate 3 exact rfl);exact hM;exact hMn;exact hMc)|((with_reducible first|apply RS.nilCheck|apply RS.move|apply RS.assign|apply RS.fieldAddr);iterate 3 exact rfl)|((with_reducible apply RS.cmpC);iterate 5 exact rfl)|((with_reducible apply RS.nil);exact mixed;kernel_rfl)|(with_reducible first|apply W.seq|apply W.ret|apply thenK_n)|((with_reducible apply W.reg);kernel_rfl))
  repeat' ((first|(((with_reducible apply RS.splitD);iterate 2 exact rfl)<;>intro _)|((((with_reducible apply RS.splitG);iterate 2 exact rfl)<;>intro _)<;>(fail_if_success cases ‹true=false›)<;>(fail_if_success cases ‹false=true›))|(((with_reducible apply W.condD);exact rfl)<;>intro _)|((((with_reducible apply W.cond);exact rfl)<;>intro _)<;>(fail_if_success cases ‹true=false›)<;>(fail_if_success cases ‹false=true›)))<;>repeat (fail))
  all_goals exact endsK_ret _ (.cons (.tmp rfl) .nil) ⟨rfl,rfl⟩
def argS (regs:List Int) (a:ArgS):Int:=if a.reg < 0 then a.num else regs.getD a.reg.toNat 0
set_option maxRecDepth 100000 in
theorem arg_tf (a:ArgS) (regs:List Int) (rb:Nat) (cs:List Value) (fb:Nat) (h:Hp) (hlen:regs.length≤1000000000) (hM:h.m fb=some ⟨⟨cs⟩,100⟩) (hMc:cs[1]?=some (.slice (some ⟨rb,0,none⟩) regs.length regs.length)) (hR:h.m rb=some ⟨⟨intsC regs⟩,2⟩):TF Try.prog 62 ⟨[.pointer (some ⟨fb,0,none⟩),.agg ⟨argC a⟩]⟩ h (.int .i64 (argS regs a)) h:=by
  refine TF.dom fun hd=>?_
  have hMn:=hd _ _ hM
  have hRn:=hd _ _ hR
  by_cases hn:0≤a.reg∧a.reg < regs.length
  · obtain ⟨v,hv⟩:∃ v,regs[a.reg.toNat]?=some v:=⟨_,List.getElem?_eq_getElem (by omega)⟩
    have hav:argS regs a=v:=by unfold argS;rw [if_neg (by omega),List.getD_eq_getElem?_getD,hv];rfl
    have hRc:(intsC regs)[0+a.reg.toNat * 1]?=some (.int .i64 v):=by
      unfold intsC;rw [Nat.zero_add,Nat.mul_one,List.getElem?_map,hv];rfl
    refine TF.still (fn:=Try.f62) (c:=(Try.f62.body.getD .skip)) Try.func62 (by kernel_rfl) Try.ntmps62 (by kernel_rfl) (by simp) ?_
    conv=>arg 2;whnf
    repeat (first|((with_reducible apply RS.load1B);(iterate 3 exact rfl);first|exact hM;exact hMn;exact hMc|exact hR;exact hRn;exact hRc)|((with_reducible apply RS.indexAddrS);(iterate 4 exact rfl);exact (Int.toNat_of_nonneg (by omega)).symm;omega)|((with_reducible first|apply RS.nilCheck|apply RS.move|apply RS.assign|apply RS.lenSl|apply RS.fieldAddr|apply RS.box);iterate 3 exact rfl)|((with_reducible apply RS.cmpF);(iterate 4 exact rfl);(simp only [cmpN];omega))|((with_reducible apply RS.load1);iterate 6 exact rfl)|((with_reducible apply RS.nil);exact mixed;kernel_rfl)|(with_reducible first|apply W.seq|apply W.block|apply W.ret|apply W.skip|apply thenK_n|apply blockK_n)|((with_reducible apply W.reg);kernel_rfl)|((with_reducible apply W.condF);kernel_rfl;exact rfl))
    repeat' ((first|(((with_reducible apply RS.splitD);iterate 2 exact rfl)<;>intro _)|((((with_reducible apply RS.splitG);iterate 2 exact rfl)<;>intro _)<;>(fail_if_success cases ‹true=false›)<;>(fail_if_success cases ‹false=true›))|(((with_reducible apply W.condD);exact rfl)<;>intro _)|((((with_reducible apply W.cond);exact rfl)<;>intro _)<;>(fail_if_success cases ‹true=false›)<;>(fail_if_success cases ‹false=true›)))<;>repeat (fail))
    all_goals exact endsK_ret _ (.cons (.tmp rfl) .nil) ⟨rfl,by rw [hav];rfl⟩
  · have hneg:a.reg < 0→argS regs a=a.num:=fun hz=>by unfold argS;rw [if_pos hz]
    have hbig:¬ a.reg < 0→argS regs a=0:=fun hz=>by
      unfold argS;rw [if_neg hz,List.getD_eq_getElem?_getD,List.getElem?_eq_none (by omega)];rfl
    refine TF.still (fn:=Try.f62) (c:=(Try.f62.body.getD .skip)) Try.func62 (by kernel_rfl) Try.ntmps62 (by kernel_rfl) (by simp) ?_
    conv=>arg 2;whnf
    repeat' (first|((with_reducible apply RS.load1B);(iterate 3 exact rfl);exact hM;exact hMn;exact hMc)|((with_reducible first|apply RS.nilCheck|apply RS.move|apply RS.assign|apply RS.lenSl|apply RS.fieldAddr|apply RS.box);iterate 3 exact rfl)|((with_reducible apply RS.cmpT);(iterate 4 exact rfl);(simp only [cmpP];omega))|((with_reducible apply RS.cmpC);iterate 5 exact rfl)|((with_reducible apply RS.load1);iterate 6 exact rfl)|((with_reducible apply RS.nil);exact mixed;kernel_rfl)|(with_reducible first|apply W.seq|apply W.block|apply W.ret|apply thenK_n|apply thenK_r|apply blockK_r)|((with_reducible apply W.reg);kernel_rfl)|((with_reducible apply W.condT);kernel_rfl;exact rfl)|(((with_reducible apply RS.splitD);iterate 2 exact rfl)<;>intro _)|((((with_reducible apply RS.splitG);iterate 2 exact rfl)<;>intro _)<;>(fail_if_success cases ‹true=false›)<;>(fail_if_success cases ‹false=true›))|(((with_reducible apply W.condD);exact rfl)<;>intro _)|((((with_reducible apply W.cond);exact rfl)<;>intro _)<;>(fail_if_success cases ‹true=false›)<;>(fail_if_success cases ‹false=true›)))
    · exact endsK_ret _ (.cons (.tmp rfl) .nil) ⟨rfl,by rw [hneg (by assumption)];rfl⟩
    · exact endsK_ret _ (.cons (.tmp rfl) .nil) ⟨rfl,by rw [hbig (by assumption)];rfl⟩
    all_goals (exfalso;omega)
theorem ParB_free {n K:Nat} {cs:List Value} {e:TypeId} (h:∀ v∈cs,bnd 0 v):ParB n K (fun _=>some ⟨⟨cs⟩,e⟩):=by
  refine ⟨fun τ π hτ=>?_,fun π N b hN hp hb u hu=>?_⟩
  · show some _=_
    congr 1
    unfold subB
    congr 1
    apply Array.ext'
    simp only [List.map_toArray]
    exact (List.map_congr_left (g:=id) fun v hv=>sub_same (n:=0) (fun i hi=>by omega) v (h v hv)).trans (List.map_id cs)
  · injection hb with hb
    subst hb
    exact bnd_mono (Nat.zero_le _) u (h u (by simpa using hu))
theorem ParB_row {n K:Nat} {α:Type} {w:α→List Value} {e:TypeId} (h:∀ a,∀ v∈w a,bnd 0 v) (l:List α):ParB n K (fun _=>rowBk w e l):=by
  have hall:∀ l:List α,∀ v∈rowC w l,bnd 0 v:=by
    intro l
    induction l with
    | nil=>intro v hv;cases hv
    | cons a l ih =>
      intro v hv
      rw [rowC,List.mem_append] at hv
      rcases hv with hv|hv
      · exact ih v hv
      · exact h a v hv
  cases l with
  | nil=>exact ⟨fun τ π hτ=>rfl,fun π N b hN hp hb=>by cases hb⟩
  | cons a l=>exact ParB_free (hall (a::l))
theorem sub_row {α:Type} {τ:Nat→Nat} {sz a:Nat} {l:List α}:sub τ (rowVl sz a l)=rowVl sz (τ a) l:=by
  cases l<;>simp [rowVl]
theorem bnd_row {α:Type} {N sz a:Nat} {l:List α} (h:a < N):bnd N (rowVl sz a l):=by
  cases l<;>simp [rowVl,h]
theorem run_par {n K:Nat} {pb:Nat} (s:RunS) (hp:pb < n) (hK:5≤K):ParL n K (runL pb s) 5:=by
  refine ⟨ParB_free fun v hv=>?_,ParB_free fun v hv=>?_,ParB_row (fun a v hv=>?_) s.leaks,ParB_row (fun a v hv=>?_) s.out,⟨fun τ π hτ=>?_,fun π N b hN hpi hb u hu=>?_⟩,trivial⟩
  · obtain ⟨x,_,rfl⟩:=List.mem_map.1 hv;simp
  · obtain ⟨x,_,rfl⟩:=List.mem_map.1 hv;simp
  · simp only [leakW,List.mem_cons,List.not_mem_nil,or_false] at hv
    rcases hv with rfl|rfl|rfl<;>simp
  · simp only [intW,List.mem_cons,List.not_mem_nil,or_false] at hv
    subst hv;simp
  · show some _=some _
    congr 1
    unfold subB runC
    congr 1
    apply Array.ext'
    simp [sub_row,hτ pb hp]
  · have hb:some _=some b:=hb
    injection hb with hb
    subst hb
    have h1:=hpi 1 (by omega)
    have h2:=hpi 2 (by omega)
    have h3:=hpi 3 (by omega)
    have h4:=hpi 4 (by omega)
    have hu:u∈runC pb s (π 1) (π 2) (π 3) (π 4):=by simpa using hu
    simp only [runC,List.mem_cons,List.not_mem_nil,or_false] at hu
    rcases hu with rfl|rfl|rfl|rfl|rfl|rfl|rfl|rfl|rfl|rfl|rfl
    all_goals first|exact bnd_row (by assumption)|(simp;done)|(simp;omega)
def stopS (s:RunS) (e:Int):RunS:=if s.fin=0 then { s with fin:=e } else s
set_option maxRecDepth 100000 in
theorem stop_to (B:Hp) (pb:Nat) (hpb:pb < B.n) (s:RunS) (e:Int):TO Try.prog 47 B 5 0 (fun π=>[.pointer (some ⟨π 0,0,none⟩),.int .i64 e]) (runL pb s) (fun _=>.tuple #[]) (runL pb (stopS s e)):=by
  refine TO.intro (fn:=Try.f47) (c:=(Try.f47.body.getD .skip)) Try.func47 (by kernel_rfl) Try.ntmps47 (fun π=>by kernel_rfl) (run_par _ hpb (by omega)) ⟨fun τ π hτ=>by simp,fun π N hN hp=>by simp⟩ fun π=>?_
  conv=>arg 2;whnf
  repeat' (first|((with_reducible apply RS.callR false [0]);(iterate 3 exact rfl);exact fun H hH=>ok_tf s.fin _ _ H (hH.l 0 rfl (by simp)) rfl;exact Nm_free (by simp))|((with_reducible first|apply RS.nilCheck|apply RS.move|apply RS.fieldAddr);iterate 3 exact rfl)|((with_reducible apply RS.store);(iterate 5 exact rfl);exact Nat.le_of_ble_eq_true rfl;iterate 3 exact rfl)|((with_reducible apply RS.nil);exact mixed;kernel_rfl)|(with_reducible first|apply W.seq|apply W.skip|apply thenK_n)|((with_reducible apply W.reg);kernel_rfl)|(((with_reducible apply RS.splitD);iterate 2 exact rfl)<;>intro _)|((((with_reducible apply RS.splitG);iterate 2 exact rfl)<;>intro _)<;>(fail_if_success cases ‹true=false›)<;>(fail_if_success cases ‹false=true›))|(((with_reducible apply W.condD);exact rfl)<;>intro _)|((((with_reducible apply W.cond);exact rfl)<;>intro _)<;>(fail_if_success cases ‹true=false›)<;>(fail_if_success cases ‹false=true›)))
  · rw [show stopS s e={ s with fin:=e } from if_pos ‹_›]
    exact ⟨[],.nil,by (refine AtO.mk [0,1,2,3,4] rfl rfl rfl ?_ ?_ rfl<;>(repeat' (first|exact trivial|exact rfl|apply And.intro));done)⟩
  · rw [show stopS s e=s from if_neg ‹_›]
    exact ⟨[],.nil,by (refine AtO.mk [0,1,2,3,4] rfl rfl rfl ?_ ?_ rfl<;>(repeat' (first|exact trivial|exact rfl|apply And.intro));done)⟩
def stepS (s:RunS):RunS:=if s.fin=0 then (if s.steps ≥ s.fuel then { s with fin:=42 } else { s with steps:=s.steps+1 }) else s
theorem stop_fresh (pb:Nat) (s:RunS) (e:Int) (π:Nat→Nat):FreshL (runL pb s π) (runL pb (stopS s e) π) 5:=by
  have h1:(stopS s e).out=s.out:=by unfold stopS;split<;>rfl
  have h2:(stopS s e).leaks=s.leaks:=by unfold stopS;split<;>rfl
  refine ⟨.inr ⟨_,rfl⟩,.inr ⟨_,rfl⟩,?_,?_,.inr ⟨_,rfl⟩,trivial⟩
  · show rowBk leakW 90 (stopS s e).leaks=none∨∃ b,rowBk leakW 90 s.leaks=some b
    rw [h2];cases s.leaks with
    | nil=>exact .inl rfl
    | cons a l=>exact .inr ⟨_,rfl⟩
  · show rowBk intW 2 (stopS s e).out=none∨∃ b,rowBk intW 2 s.out=some b
    rw [h1];cases s.out with
    | nil=>exact .inl rfl
    | cons a l=>exact .inr ⟨_,rfl⟩
set_option maxRecDepth 100000 in
theorem step_to (B:Hp) (pb:Nat) (hpb:pb < B.n) (s:RunS) (hst:0≤s.steps∧s.steps≤1000000000):TO Try.prog 61 B 5 0 (fun π=>[.pointer (some ⟨π 0,0,none⟩)]) (runL pb s) (fun _=>.bool ((stepS s).fin == 0)) (runL pb (stepS s)):=by
  refine TO.intro (fn:=Try.f61) (c:=(Try.f61.body.getD .skip)) Try.func61 (by kernel_rfl) Try.ntmps61 (fun π=>by kernel_rfl) (run_par _ hpb (by omega)) ⟨fun τ π hτ=>by simp,fun π N hN hp=>by simp⟩ fun π=>?_
  conv=>arg 2;whnf
  repeat' (first|((with_reducible apply RS.callR false [0]);(iterate 3 exact rfl);exact fun H hH=>ok_tf _ _ _ H (hH.l 0 rfl (by simp)) rfl;exact Nm_free (by simp))|((with_reducible apply (RS.callO (vs:=[]) [0,1,2,3,4] 0));(iterate 2 exact rfl);exact stop_to _ pb hpb s 42;(iterate 2 exact rfl);exact ⟨rfl,rfl,rfl,rfl,rfl,trivial⟩;exact stop_fresh _ _ _ _)|((with_reducible first|apply RS.nilCheck|apply RS.move|apply RS.assign|apply RS.fieldAddr);iterate 3 exact rfl)|((with_reducible apply RS.pickT);iterate 4 exact rfl)|((with_reducible apply RS.pickF);iterate 4 exact rfl)|((with_reducible apply RS.cmpT);(iterate 4 exact rfl);(simp only [cmpP];omega))|((with_reducible apply RS.binFit);(iterate 5 exact rfl);omega)|((with_reducible apply RS.bin);iterate 5 exact rfl)|((with_reducible apply RS.load1);iterate 6 exact rfl)|((with_reducible apply RS.store);(iterate 5 exact rfl);exact Nat.le_of_ble_eq_true rfl;iterate 3 exact rfl)|((with_reducible apply RS.skip);iterate 2 exact rfl)|((with_reducible apply RS.nil);exact mixed;kernel_rfl)|(with_reducible first|apply W.seq|apply W.ret|apply W.skip|apply thenK_n)|((with_reducible apply W.reg);kernel_rfl)|((with_reducible apply W.condF);kernel_rfl;exact rfl)|(((with_reducible apply RS.splitD);iterate 2 exact rfl)<;>intro _)|((((with_reducible apply RS.splitG);iterate 2 exact rfl)<;>intro _)<;>(fail_if_success cases ‹true=false›)<;>(fail_if_success cases ‹false=true›))|(((with_reducible apply W.condD);exact rfl)<;>intro _)|((((with_reducible apply W.cond);exact rfl)<;>intro _)<;>(fail_if_success cases ‹true=false›)<;>(fail_if_success cases ‹false=true›)))
  · rename_i q1 q2 q3
    exfalso
    rw [show stopS s 42={ s with fin:=42 } from if_pos q1] at q3
    exact absurd q3 (show ¬ (42:Int)=0 by decide)
  · rename_i q1 q2 q3
    rw [show stepS s=stopS s 42 by unfold stepS stopS;rw [if_pos q1,if_pos q2,if_pos q1]]
    exact endsK_ret _ (.cons (.tmp rfl) .nil) (by (refine AtO.mk [0,1,2,3,4] rfl rfl rfl ?_ ?_ rfl<;>(repeat' (first|exact trivial|exact rfl|apply And.intro));done))
  · rename_i q1 q2 q3
    rw [show stepS s={ s with steps:=s.steps+1 } by unfold stepS;rw [if_pos q1,if_neg q2]]
    exact endsK_ret _ (.cons (.tmp rfl) .nil) (by (refine AtO.mk [0,1,2,3,4] rfl rfl rfl ?_ ?_ rfl<;>(repeat' (first|exact trivial|exact rfl|apply And.intro));done))
  · exact absurd ‹s.fin=0› ‹¬ s.fin=0›
  · exact absurd ‹s.fin=0› ‹¬ s.fin=0›
  · rename_i q1 q2
    rw [show stepS s=s by unfold stepS;rw [if_neg q1]]
    exact endsK_ret _ (.cons (.tmp rfl) .nil) (by (refine AtO.mk [0,1,2,3,4] rfl rfl rfl ?_ ?_ rfl<;>(repeat' (first|exact trivial|exact rfl|apply And.intro));done))
end Go.Proofs.Ytjhloakacicdiaa
namespace Go.Proofs.Ytjhloakacicdiaa
open Go.AH
attribute [local irreducible] W RS
structure RunS.ok (s:RunS):Prop where
  data:s.data.length≤1000000
  stack:s.stack.length≤1000000
  steps:0≤s.steps∧s.steps≤1000000000
  leaks:s.leaks.length≤1000000000
  out:s.out.length≤1000000000
def inData (s:RunS) (at_:Int) (n:Nat):Prop:=65536≤at_∧at_≤65536+s.data.length - n
def inStack (s:RunS) (at_:Int) (n:Nat):Prop:=134217728 - (s.stack.length:Int)≤at_∧at_≤134217728 - n
set_option maxRecDepth 100000 in
theorem bytesD_to (B:Hp) (pb:Nat) (hpb:pb < B.n) (s:RunS) (hs:s.ok) (at_:Int) (n:Nat) (hn:1≤n∧n≤8) (hin:inData s at_ n):TO Try.prog 77 B 5 0 (fun π=>[.pointer (some ⟨π 0,0,none⟩),.int .i64 at_,.int .i64 n]) (runL pb s) (fun π=>.slice (some ⟨π 3,0+(at_ - 65536).toNat * 1,none⟩) n (s.data.length - (at_ - 65536).toNat)) (runL pb s):=by
  obtain ⟨hi1,hi2⟩:=hin
  have hd:=hs.data
  have hk:=hs.stack
  refine TO.intro (fn:=Try.f77) (c:=(Try.f77.body.getD .skip)) Try.func77 (by kernel_rfl) Try.ntmps77 (fun π=>by kernel_rfl) (run_par _ hpb (by omega)) ⟨fun τ π hτ=>by simp,fun π N hN hp=>by simpa using hp 3 (by omega)⟩ fun π=>?_
  conv=>arg 2;whnf
  repeat (first|((with_reducible apply RS.sliceFrom);(iterate 4 exact rfl);exact (Int.toNat_of_nonneg (by omega)).symm;omega;exact Nat.le_refl _;omega;(show _ < 18446744073709551616;omega))|((with_reducible apply RS.sliceUpto);(iterate 5 exact rfl);omega;(show _ < 18446744073709551616;omega))|((with_reducible first|apply RS.nilCheck|apply RS.move|apply RS.assign|apply RS.lenSl|apply RS.fieldAddr);iterate 3 exact rfl)|((with_reducible apply RS.pickT);iterate 4 exact rfl)|((with_reducible apply RS.cmpT);(iterate 4 exact rfl);(simp only [cmpP];omega))|((with_reducible apply RS.binFit);(iterate 5 exact rfl);omega)|((with_reducible apply RS.load1);iterate 6 exact rfl)|((with_reducible apply RS.nil);exact mixed;kernel_rfl)|(with_reducible first|apply W.seq|apply W.block|apply W.ret|apply thenK_n|apply thenK_r|apply blockK_r)|((with_reducible apply W.reg);kernel_rfl)|((with_reducible apply W.condT);kernel_rfl;exact rfl))
  repeat' ((first|(((with_reducible apply RS.splitD);iterate 2 exact rfl)<;>intro _)|((((with_reducible apply RS.splitG);iterate 2 exact rfl)<;>intro _)<;>(fail_if_success cases ‹true=false›)<;>(fail_if_success cases ‹false=true›))|(((with_reducible apply W.condD);exact rfl)<;>intro _)|((((with_reducible apply W.cond);exact rfl)<;>intro _)<;>(fail_if_success cases ‹true=false›)<;>(fail_if_success cases ‹false=true›)))<;>repeat (fail))
  all_goals exact endsK_ret _ (.cons (.tmp rfl) .nil) (by (refine AtO.mk [0,1,2,3,4] rfl rfl rfl ?_ ?_ rfl<;>(repeat' (first|exact trivial|exact rfl|apply And.intro));done))
set_option maxRecDepth 100000 in
theorem bytesK_to (B:Hp) (pb:Nat) (hpb:pb < B.n) (s:RunS) (hs:s.ok) (at_:Int) (n:Nat) (hn:1≤n∧n≤8) (hno:¬ inData s at_ n) (hin:inStack s at_ n):TO Try.prog 77 B 5 0 (fun π=>[.pointer (some ⟨π 0,0,none⟩),.int .i64 at_,.int .i64 n]) (runL pb s) (fun π=>.slice (some ⟨π 4,0+(at_ - (134217728 - (s.stack.length:Int))).toNat * 1,none⟩) n (s.stack.length - (at_ - (134217728 - (s.stack.length:Int))).toNat)) (runL pb s):=by
  obtain ⟨hi1,hi2⟩:=hin
  have hd:=hs.data
  have hk:=hs.stack
  refine TO.intro (fn:=Try.f77) (c:=(Try.f77.body.getD .skip)) Try.func77 (by kernel_rfl) Try.ntmps77 (fun π=>by kernel_rfl) (run_par _ hpb (by omega)) ⟨fun τ π hτ=>by simp,fun π N hN hp=>by simpa using hp 4 (by omega)⟩ fun π=>?_
  conv=>arg 2;whnf
  repeat (first|((with_reducible apply RS.sliceFrom);(iterate 4 exact rfl);exact (Int.toNat_of_nonneg (by omega)).symm;omega;exact Nat.le_refl _;omega;(show _ < 18446744073709551616;omega))|((with_reducible apply RS.sliceUpto);(iterate 5 exact rfl);omega;(show _ < 18446744073709551616;omega))|((with_reducible first|apply RS.nilCheck|apply RS.move|apply RS.assign|apply RS.lenSl|apply RS.fieldAddr);iterate 3 exact rfl)|((with_reducible apply RS.pickT);iterate 4 exact rfl)|((with_reducible apply RS.cmpT);(iterate 4 exact rfl);(simp only [cmpP];omega))|((with_reducible apply RS.cmpF);(iterate 4 exact rfl);(simp only [cmpN];omega))|((with_reducible apply RS.binFit);(iterate 5 exact rfl);omega)|((with_reducible apply RS.load1);iterate 6 exact rfl)|((with_reducible apply RS.nil);exact mixed;kernel_rfl)|(with_reducible first|apply W.seq|apply W.block|apply W.ret|apply thenK_n|apply thenK_r|apply blockK_r)|((with_reducible apply W.reg);kernel_rfl)|((with_reducible apply W.condT);kernel_rfl;exact rfl)|((with_reducible apply W.condF);kernel_rfl;exact rfl))
  repeat' ((first|(((with_reducible apply RS.splitD);iterate 2 exact rfl)<;>intro _)|((((with_reducible apply RS.splitG);iterate 2 exact rfl)<;>intro _)<;>(fail_if_success cases ‹true=false›)<;>(fail_if_success cases ‹false=true›))|(((with_reducible apply W.condD);exact rfl)<;>intro _)|((((with_reducible apply W.cond);exact rfl)<;>intro _)<;>(fail_if_success cases ‹true=false›)<;>(fail_if_success cases ‹false=true›)))<;>repeat (fail))
  all_goals first|exact endsK_ret _ (.cons (.tmp rfl) .nil) (by (refine AtO.mk [0,1,2,3,4] rfl rfl rfl ?_ ?_ rfl<;>(repeat' (first|exact trivial|exact rfl|apply And.intro));done))|(exfalso;exact hno ⟨by omega,by omega⟩)|(exfalso;omega)
set_option maxRecDepth 100000 in
theorem bytesN_to (B:Hp) (pb:Nat) (hpb:pb < B.n) (s:RunS) (hs:s.ok) (at_:Int) (hat:-9223372036854775808≤at_∧at_≤9223372036854775807) (n:Nat) (hn:1≤n∧n≤8) (hno:¬ inData s at_ n) (hno2:¬ inStack s at_ n):TO Try.prog 77 B 5 0 (fun π=>[.pointer (some ⟨π 0,0,none⟩),.int .i64 at_,.int .i64 n]) (runL pb s) (fun π=>.slice none 0 0) (runL pb (stopS s 40)):=by
  have hd:=hs.data
  have hk:=hs.stack
  refine TO.intro (fn:=Try.f77) (c:=(Try.f77.body.getD .skip)) Try.func77 (by kernel_rfl) Try.ntmps77 (fun π=>by kernel_rfl) (run_par _ hpb (by omega)) ⟨fun τ π hτ=>by simp,fun π N hN hp=>by simp⟩ fun π=>?_
  conv=>arg 2;whnf
  repeat' (first|((with_reducible apply (RS.callO (vs:=[]) [0,1,2,3,4] 0));(iterate 2 exact rfl);exact stop_to _ pb hpb s 40;(iterate 2 exact rfl);exact ⟨rfl,rfl,rfl,rfl,rfl,trivial⟩;exact stop_fresh _ _ _ _)|((with_reducible apply RS.sliceFrom);(iterate 4 exact rfl);exact (Int.toNat_of_nonneg (by omega)).symm;omega;exact Nat.le_refl _;omega;(show _ < 18446744073709551616;omega))|((with_reducible apply RS.sliceUpto);(iterate 5 exact rfl);omega;(show _ < 18446744073709551616;omega))|((with_reducible first|apply RS.nilCheck|apply RS.move|apply RS.assign|apply RS.lenSl|apply RS.fieldAddr);iterate 3 exact rfl)|((with_reducible apply RS.pickT);iterate 4 exact rfl)|((with_reducible apply RS.pickF);iterate 4 exact rfl)|((with_reducible apply RS.cmpF);(iterate 4 exact rfl);(simp only [cmpN];omega))|((with_reducible apply RS.cmpC);iterate 5 exact rfl)|((with_reducible apply RS.binFit);(iterate 5 exact rfl);omega)|((with_reducible apply RS.bin);iterate 5 exact rfl)|((with_reducible apply RS.load1);iterate 6 exact rfl)|((with_reducible apply RS.skip);iterate 2 exact rfl)|((with_reducible apply RS.nil);exact mixed;kernel_rfl)|(with_reducible first|apply W.seq|apply W.block|apply W.ret|apply W.skip|apply thenK_n|apply thenK_r|apply blockK_n|apply blockK_r)|((with_reducible apply W.reg);kernel_rfl)|((with_reducible apply W.condF);kernel_rfl;exact rfl)|(((with_reducible apply RS.splitD);iterate 2 exact rfl)<;>intro _)|((((with_reducible apply RS.splitG);iterate 2 exact rfl)<;>intro _)<;>(fail_if_success cases ‹true=false›)<;>(fail_if_success cases ‹false=true›))|(((with_reducible apply W.condD);exact rfl)<;>intro _)|((((with_reducible apply W.cond);exact rfl)<;>intro _)<;>(fail_if_success cases ‹true=false›)<;>(fail_if_success cases ‹false=true›)))
  all_goals first|exact endsK_ret _ (.cons (.tmp rfl) .nil) (by (refine AtO.mk [0,1,2,3,4] rfl rfl rfl ?_ ?_ rfl<;>(repeat' (first|exact trivial|exact rfl|apply And.intro));done))|(exfalso;exact hno ⟨by omega,by omega⟩)|(exfalso;exact hno2 ⟨by omega,by omega⟩)|(exfalso;omega)|skip
end Go.Proofs.Ytjhloakacicdiaa
namespace Go.Proofs.Ytjhloakacicdiaa
open Go.AH
attribute [local irreducible] W RS
def leakS (s:RunS) (x:LeakS):RunS:={ s with leaks:=x::s.leaks }
def lkL (pb:Nat) (s:RunS) (π:Nat→Nat):List (Nat × Option Blk):=[(0,some ⟨⟨runC pb s (π 1) (π 5) (π 3) (π 4)⟩,87⟩),(1,rowBk intW 2 s.out),(2,none),(3,some ⟨⟨bytesC s.data⟩,5⟩),(4,some ⟨⟨bytesC s.stack⟩,5⟩),(5,rowBk leakW 90 s.leaks)]
theorem lk_par {n K:Nat} {pb:Nat} (s:RunS) (hp:pb < n) (hK:6≤K):ParL n K (lkL pb s) 6:=by
  refine ⟨ParB_row (fun a v hv=>?_) s.leaks,ParB_free fun v hv=>?_,ParB_free fun v hv=>?_,⟨fun τ π hτ=>rfl,fun π N b hN hp hb=>by cases hb⟩,ParB_row (fun a v hv=>?_) s.out,⟨fun τ π hτ=>?_,fun π N b hN hpi hb u hu=>?_⟩,trivial⟩
  · simp only [leakW,List.mem_cons,List.not_mem_nil,or_false] at hv
    rcases hv with rfl|rfl|rfl<;>simp
  · obtain ⟨x,_,rfl⟩:=List.mem_map.1 hv;simp
  · obtain ⟨x,_,rfl⟩:=List.mem_map.1 hv;simp
  · simp only [intW,List.mem_cons,List.not_mem_nil,or_false] at hv
    subst hv;simp
  · show some _=some _
    congr 1
    unfold subB runC
    congr 1
    apply Array.ext'
    simp [sub_row,hτ pb hp]
  · have hb:some _=some b:=hb
    injection hb with hb
    subst hb
    have h1:=hpi 1 (by omega)
    have h2:=hpi 5 (by omega)
    have h3:=hpi 3 (by omega)
    have h4:=hpi 4 (by omega)
    have hu:u∈runC pb s (π 1) (π 5) (π 3) (π 4):=by simpa using hu
    simp only [runC,List.mem_cons,List.not_mem_nil,or_false] at hu
    rcases hu with rfl|rfl|rfl|rfl|rfl|rfl|rfl|rfl|rfl|rfl|rfl
    all_goals first|exact bnd_row (by assumption)|(simp;done)|(simp;omega)
def loadStep (v b:Int) (i:Nat):Int:=IntKind.i64.wrap ((BitVec.ofInt IntKind.i64.bits v ||| BitVec.ofInt IntKind.i64.bits (IntKind.i64.wrap (IntKind.i64.wrap b * 2 ^ (min (8 * (i:Int)).toNat IntKind.i64.bits)))).toNat:Int)
def loadV (dl:List Int) (o:Nat):Nat→Int
  | 0=>0
  | i+1=>loadStep (loadV dl o i) (dl.getD (o+i) 0) i
theorem AllB.opt {hl:List (Nat × Option Blk)} {m:List Nat} {i j:Nat} {ob:Option Blk} {l:List (Nat × Option Blk)} (hj:nthL m i=some j) (h:lookB hl j=ob) (ht:AllB hl m l):AllB hl m ((i,ob)::l):=by
  cases ob with
  | none=>exact ht
  | some b=>exact ⟨by rw [hj];exact h,ht⟩
theorem row_fresh {α:Type} (w:α→List Value) (e:TypeId) (l:List α):rowBk w e l=none∨∃ b,rowBk w e l=some b:=by
  cases l with
  | nil=>exact .inl rfl
  | cons a l=>exact .inr ⟨_,rfl⟩
theorem run_fresh (pb:Nat) (s:RunS) (π:Nat→Nat):FreshL (runL pb s π) (runL pb s π) 5:=⟨.inr ⟨_,rfl⟩,.inr ⟨_,rfl⟩,row_fresh _ _ _,row_fresh _ _ _,.inr ⟨_,rfl⟩,trivial⟩
set_option maxHeartbeats 2000000 in
set_option maxRecDepth 100000 in
theorem loadD_to (B:Hp) (pb:Nat) (hpb:pb < B.n) (s:RunS) (at_:Int) (hs:(leakS s ⟨2,at_,0⟩).ok) (n:Nat) (hn:1≤n∧n≤8) (sg:Bool) (hin:inData s at_ n):TO Try.prog 69 B 5 1 (fun π=>[.pointer (some ⟨π 0,0,none⟩),.int .i64 at_,.int .i64 n,.bool sg]) (runL pb s) (fun π=>.int .i64 (widenS (loadV s.data (at_ - 65536).toNat n) n sg)) (lkL pb (leakS s ⟨2,at_,0⟩)):=by
  have hd:s.data.length≤1000000:=hs.data
  have hlk:s.leaks.length+1≤1000000000:=hs.leaks
  have hin':=hin
  obtain ⟨hi1,hi2⟩:=hin'
  refine TO.intro (fn:=Try.f69) (c:=(Try.f69.body.getD .skip)) Try.func69 (by kernel_rfl) Try.ntmps69 (fun π=>by kernel_rfl) (lk_par _ hpb (by omega)) ⟨fun τ π hτ=>by simp,fun π N hN hp=>by simp⟩ fun π=>?_
  conv=>arg 2;whnf
  repeat (first|((with_reducible apply (RS.appendRow (w:=leakW) (l0:=s.leaks) (q:=⟨2,at_,0⟩)));(iterate 11 exact rfl);exact Nat.le_of_ble_eq_true rfl;exact fun _=>rfl;exact rfl;omega;omega)|((with_reducible apply RS.buildSlice);iterate 8 exact rfl)|((with_reducible apply (RS.callO (vs:=[]) [0,1,6,3,4] 0));(iterate 2 exact rfl);exact bytesD_to B pb hpb (leakS s ⟨2,at_,0⟩) hs at_ n hn hin;(iterate 2 exact rfl);exact ⟨rfl,rfl,rfl,rfl,rfl,trivial⟩;exact run_fresh _ _ _)|((with_reducible first|apply RS.nilCheck|apply RS.move|apply RS.assign|apply RS.lenSl|apply RS.fieldAddr);iterate 3 exact rfl)|((with_reducible apply RS.load1);iterate 6 exact rfl)|((with_reducible apply RS.store);(iterate 5 exact rfl);exact Nat.le_of_ble_eq_true rfl;iterate 3 exact rfl)|((with_reducible apply RS.build);iterate 4 exact rfl)|((with_reducible apply RS.nil);exact mixed;kernel_rfl)|(with_reducible first|apply W.seq|apply W.block|apply thenK_n)|((with_reducible apply W.reg);kernel_rfl))
  refine W.loopP (X:=Nat × Int) (fun π y=>[(0,.pointer (some ⟨π 0,0,none⟩)),(2,.int .i64 n),(3,.bool sg),(9,.int .i64 y.2),(28,.slice (some ⟨π 3,0+(at_ - 65536).toNat * 1,none⟩) n (s.data.length - (at_ - 65536).toNat)),(29,.int .i64 n),(30,.int .i64 y.1)]) (fun _=>B) (fun π _=>lkL pb (leakS s ⟨2,at_,0⟩) π) (fun π' y=>EqUp π' π 5∧y.1≤n∧y.2=loadV s.data (at_ - 65536).toNat y.1) (fun y=>n - y.1) [0,1,2,3,4,6] (0,0) ⟨⟨rfl,rfl,rfl,rfl,rfl,trivial⟩,Nat.zero_le _,rfl⟩ (by (refine FitL.mk ?_ ?_ ?_ ?_<;>(repeat' (first|exact trivial|exact rfl|(refine AllB.opt rfl rfl ?_)|apply And.intro));done)) ?_
  rintro π' ⟨i,v⟩ ⟨hE,hI,hv⟩
  dsimp only at hI hv ⊢
  subst hv
  by_cases hlt:i < n
  · have hb:s.data[(at_ - 65536).toNat+i]?=some (s.data.getD ((at_ - 65536).toNat+i) 0):=by
      rw [List.getD_eq_getElem?_getD,List.getElem?_eq_getElem (by omega)];rfl
    have hbyte:(bytesC s.data)[0+(at_ - 65536).toNat * 1+i * 1]?=some (.int .u8 (s.data.getD ((at_ - 65536).toNat+i) 0)):=by
      unfold bytesC;rw [Nat.zero_add,Nat.mul_one,Nat.mul_one,List.getElem?_map,hb];rfl
    repeat (first|((with_reducible apply RS.shl);(iterate 4 exact rfl);omega)|((with_reducible apply RS.indexAddrS);(iterate 5 exact rfl);omega)|((with_reducible apply RS.load1At);(iterate 5 exact rfl);exact hbyte)|((with_reducible first|apply RS.move|apply RS.assign|apply RS.convI);iterate 3 exact rfl)|((with_reducible apply RS.cmpT);(iterate 4 exact rfl);(simp only [cmpP];omega))|((with_reducible apply RS.add1);(iterate 4 exact rfl);omega)|((with_reducible apply RS.binFit);(iterate 5 exact rfl);omega)|((with_reducible apply RS.bin);iterate 5 exact rfl)|((with_reducible apply RS.nil);exact mixed;kernel_rfl)|(with_reducible first|apply W.seq|apply W.block|apply W.skip|apply thenK_n|apply blockK_n)|((with_reducible apply W.reg);kernel_rfl)|((with_reducible apply W.condT);kernel_rfl;exact rfl))
    exact roundP_n (i+1,loadV s.data (at_ - 65536).toNat (i+1)) [0,1,2,3,4,5] rfl rfl ⟨hE,by dsimp only;omega,rfl⟩ (by dsimp only;omega) (by (refine FitL.mk ?_ ?_ ?_ ?_<;>(repeat' (first|exact trivial|exact rfl|(refine AllB.opt rfl rfl ?_)|apply And.intro));done))
  · have hni:i=n:=by omega
    repeat (first|((with_reducible apply RS.callR true []);(iterate 3 exact rfl);exact fun H hH=>widen_tf _ _ _ H;exact Nm_free (by simp))|((with_reducible first|apply RS.move|apply RS.assign);iterate 3 exact rfl)|((with_reducible apply RS.cmpF);(iterate 4 exact rfl);(simp only [cmpN];omega))|((with_reducible apply RS.nil);exact mixed;kernel_rfl)|(with_reducible first|apply W.seq|apply W.exit|apply W.ret|apply thenK_n|apply thenK_e|apply roundP_e)|((with_reducible apply W.reg);kernel_rfl)|((with_reducible apply W.condF);kernel_rfl;exact rfl)|((with_reducible apply blockK_hit);exact rfl))
    refine endsK_ret _ (.cons (.tmp rfl) .nil) (AtO.mk [0,1,2,3,4,5] rfl rfl rfl hE (by (repeat' (first|exact trivial|exact rfl|apply And.intro));done) ?_)
    rw [← hni];rfl
set_option maxHeartbeats 2000000 in
set_option maxRecDepth 100000 in
theorem loadK_to (B:Hp) (pb:Nat) (hpb:pb < B.n) (s:RunS) (at_:Int) (hs:(leakS s ⟨2,at_,0⟩).ok) (n:Nat) (hn:1≤n∧n≤8) (sg:Bool) (hno:¬ inData s at_ n) (hin:inStack s at_ n):TO Try.prog 69 B 5 1 (fun π=>[.pointer (some ⟨π 0,0,none⟩),.int .i64 at_,.int .i64 n,.bool sg]) (runL pb s) (fun π=>.int .i64 (widenS (loadV s.stack (at_ - (134217728 - (s.stack.length:Int))).toNat n) n sg)) (lkL pb (leakS s ⟨2,at_,0⟩)):=by
  have hd:s.stack.length≤1000000:=hs.stack
  have hlk:s.leaks.length+1≤1000000000:=hs.leaks
  have hin':=hin
  obtain ⟨hi1,hi2⟩:=hin'
  refine TO.intro (fn:=Try.f69) (c:=(Try.f69.body.getD .skip)) Try.func69 (by kernel_rfl) Try.ntmps69 (fun π=>by kernel_rfl) (lk_par _ hpb (by omega)) ⟨fun τ π hτ=>by simp,fun π N hN hp=>by simp⟩ fun π=>?_
  conv=>arg 2;whnf
  repeat (first|((with_reducible apply (RS.appendRow (w:=leakW) (l0:=s.leaks) (q:=⟨2,at_,0⟩)));(iterate 11 exact rfl);exact Nat.le_of_ble_eq_true rfl;exact fun _=>rfl;exact rfl;omega;omega)|((with_reducible apply RS.buildSlice);iterate 8 exact rfl)|((with_reducible apply (RS.callO (vs:=[]) [0,1,6,3,4] 0));(iterate 2 exact rfl);exact bytesK_to B pb hpb (leakS s ⟨2,at_,0⟩) hs at_ n hn hno hin;(iterate 2 exact rfl);exact ⟨rfl,rfl,rfl,rfl,rfl,trivial⟩;exact run_fresh _ _ _)|((with_reducible first|apply RS.nilCheck|apply RS.move|apply RS.assign|apply RS.lenSl|apply RS.fieldAddr);iterate 3 exact rfl)|((with_reducible apply RS.load1);iterate 6 exact rfl)|((with_reducible apply RS.store);(iterate 5 exact rfl);exact Nat.le_of_ble_eq_true rfl;iterate 3 exact rfl)|((with_reducible apply RS.build);iterate 4 exact rfl)|((with_reducible apply RS.nil);exact mixed;kernel_rfl)|(with_reducible first|apply W.seq|apply W.block|apply thenK_n)|((with_reducible apply W.reg);kernel_rfl))
  refine W.loopP (X:=Nat × Int) (fun π y=>[(0,.pointer (some ⟨π 0,0,none⟩)),(2,.int .i64 n),(3,.bool sg),(9,.int .i64 y.2),(28,.slice (some ⟨π 4,0+(at_ - (134217728 - (s.stack.length:Int))).toNat * 1,none⟩) n (s.stack.length - (at_ - (134217728 - (s.stack.length:Int))).toNat)),(29,.int .i64 n),(30,.int .i64 y.1)]) (fun _=>B) (fun π _=>lkL pb (leakS s ⟨2,at_,0⟩) π) (fun π' y=>EqUp π' π 5∧y.1≤n∧y.2=loadV s.stack (at_ - (134217728 - (s.stack.length:Int))).toNat y.1) (fun y=>n - y.1) [0,1,2,3,4,6] (0,0) ⟨⟨rfl,rfl,rfl,rfl,rfl,trivial⟩,Nat.zero_le _,rfl⟩ (by (refine FitL.mk ?_ ?_ ?_ ?_<;>(repeat' (first|exact trivial|exact rfl|(refine AllB.opt rfl rfl ?_)|apply And.intro));done)) ?_
  rintro π' ⟨i,v⟩ ⟨hE,hI,hv⟩
  dsimp only at hI hv ⊢
  subst hv
  by_cases hlt:i < n
  · have hb:s.stack[(at_ - (134217728 - (s.stack.length:Int))).toNat+i]?=some (s.stack.getD ((at_ - (134217728 - (s.stack.length:Int))).toNat+i) 0):=by
      rw [List.getD_eq_getElem?_getD,List.getElem?_eq_getElem (by omega)];rfl
    have hbyte:(bytesC s.stack)[0+(at_ - (134217728 - (s.stack.length:Int))).toNat * 1+i * 1]?=some (.int .u8 (s.stack.getD ((at_ - (134217728 - (s.stack.length:Int))).toNat+i) 0)):=by
      unfold bytesC;rw [Nat.zero_add,Nat.mul_one,Nat.mul_one,List.getElem?_map,hb];rfl
    repeat (first|((with_reducible apply RS.shl);(iterate 4 exact rfl);omega)|((with_reducible apply RS.indexAddrS);(iterate 5 exact rfl);omega)|((with_reducible apply RS.load1At);(iterate 5 exact rfl);exact hbyte)|((with_reducible first|apply RS.move|apply RS.assign|apply RS.convI);iterate 3 exact rfl)|((with_reducible apply RS.cmpT);(iterate 4 exact rfl);(simp only [cmpP];omega))|((with_reducible apply RS.add1);(iterate 4 exact rfl);omega)|((with_reducible apply RS.binFit);(iterate 5 exact rfl);omega)|((with_reducible apply RS.bin);iterate 5 exact rfl)|((with_reducible apply RS.nil);exact mixed;kernel_rfl)|(with_reducible first|apply W.seq|apply W.block|apply W.skip|apply thenK_n|apply blockK_n)|((with_reducible apply W.reg);kernel_rfl)|((with_reducible apply W.condT);kernel_rfl;exact rfl))
    exact roundP_n (i+1,loadV s.stack (at_ - (134217728 - (s.stack.length:Int))).toNat (i+1)) [0,1,2,3,4,5] rfl rfl ⟨hE,by dsimp only;omega,rfl⟩ (by dsimp only;omega) (by (refine FitL.mk ?_ ?_ ?_ ?_<;>(repeat' (first|exact trivial|exact rfl|(refine AllB.opt rfl rfl ?_)|apply And.intro));done))
  · have hni:i=n:=by omega
    repeat (first|((with_reducible apply RS.callR true []);(iterate 3 exact rfl);exact fun H hH=>widen_tf _ _ _ H;exact Nm_free (by simp))|((with_reducible first|apply RS.move|apply RS.assign);iterate 3 exact rfl)|((with_reducible apply RS.cmpF);(iterate 4 exact rfl);(simp only [cmpN];omega))|((with_reducible apply RS.nil);exact mixed;kernel_rfl)|(with_reducible first|apply W.seq|apply W.exit|apply W.ret|apply thenK_n|apply thenK_e|apply roundP_e)|((with_reducible apply W.reg);kernel_rfl)|((with_reducible apply W.condF);kernel_rfl;exact rfl)|((with_reducible apply blockK_hit);exact rfl))
    refine endsK_ret _ (.cons (.tmp rfl) .nil) (AtO.mk [0,1,2,3,4,5] rfl rfl rfl hE (by (repeat' (first|exact trivial|exact rfl|apply And.intro));done) ?_)
    rw [← hni];rfl
set_option maxHeartbeats 2000000 in
set_option maxRecDepth 100000 in
theorem loadN_to (B:Hp) (pb:Nat) (hpb:pb < B.n) (s:RunS) (at_:Int) (hs:(leakS s ⟨2,at_,0⟩).ok) (hat:-9223372036854775808≤at_∧at_≤9223372036854775807) (n:Nat) (hn:1≤n∧n≤8) (sg:Bool) (hno:¬ inData s at_ n) (hno2:¬ inStack s at_ n):TO Try.prog 69 B 5 1 (fun π=>[.pointer (some ⟨π 0,0,none⟩),.int .i64 at_,.int .i64 n,.bool sg]) (runL pb s) (fun π=>.int .i64 (widenS 0 n sg)) (lkL pb (stopS (leakS s ⟨2,at_,0⟩) 40)):=by
  have hlk:s.leaks.length+1≤1000000000:=hs.leaks
  refine TO.intro (fn:=Try.f69) (c:=(Try.f69.body.getD .skip)) Try.func69 (by kernel_rfl) Try.ntmps69 (fun π=>by kernel_rfl) (lk_par _ hpb (by omega)) ⟨fun τ π hτ=>by simp,fun π N hN hp=>by simp⟩ fun π=>?_
  conv=>arg 2;whnf
  repeat (first|((with_reducible apply (RS.appendRow (w:=leakW) (l0:=s.leaks) (q:=⟨2,at_,0⟩)));(iterate 11 exact rfl);exact Nat.le_of_ble_eq_true rfl;exact fun _=>rfl;exact rfl;omega;omega)|((with_reducible apply RS.buildSlice);iterate 8 exact rfl)|((with_reducible apply (RS.callO (vs:=[]) [0,1,6,3,4] 0));(iterate 2 exact rfl);exact bytesN_to B pb hpb (leakS s ⟨2,at_,0⟩) hs at_ hat n hn hno hno2;(iterate 2 exact rfl);exact ⟨rfl,rfl,rfl,rfl,rfl,trivial⟩;exact stop_fresh _ _ _ _)|((with_reducible first|apply RS.nilCheck|apply RS.move|apply RS.assign|apply RS.lenSl|apply RS.fieldAddr);iterate 3 exact rfl)|((with_reducible apply RS.load1);iterate 6 exact rfl)|((with_reducible apply RS.store);(iterate 5 exact rfl);exact Nat.le_of_ble_eq_true rfl;iterate 3 exact rfl)|((with_reducible apply RS.build);iterate 4 exact rfl)|((with_reducible apply RS.nil);exact mixed;kernel_rfl)|(with_reducible first|apply W.seq|apply W.block|apply thenK_n)|((with_reducible apply W.reg);kernel_rfl))
  refine W.loopP (X:=Unit) (fun π y=>[(0,.pointer (some ⟨π 0,0,none⟩)),(2,.int .i64 n),(3,.bool sg),(9,.int .i64 0),(28,.slice none 0 0),(29,.int .i64 (0:Nat)),(30,.int .i64 0)]) (fun _=>B) (fun π _=>lkL pb (stopS (leakS s ⟨2,at_,0⟩) 40) π) (fun π' y=>EqUp π' π 5) (fun y=>0) [0,1,2,3,4,6] () ⟨rfl,rfl,rfl,rfl,rfl,trivial⟩ (by (refine FitL.mk ?_ ?_ ?_ ?_<;>(repeat' (first|exact trivial|exact rfl|(refine AllB.opt rfl rfl ?_)|apply And.intro));done)) ?_
  intro π' _ hE
  repeat (first|((with_reducible apply RS.callR true []);(iterate 3 exact rfl);exact fun H hH=>widen_tf _ _ _ H;exact Nm_free (by simp))|((with_reducible first|apply RS.move|apply RS.assign);iterate 3 exact rfl)|((with_reducible apply RS.cmpF);(iterate 4 exact rfl);(simp only [cmpN];omega))|((with_reducible apply RS.nil);exact mixed;kernel_rfl)|(with_reducible first|apply W.seq|apply W.exit|apply W.ret|apply thenK_n|apply thenK_e|apply roundP_e)|((with_reducible apply W.reg);kernel_rfl)|((with_reducible apply W.condF);kernel_rfl;exact rfl)|((with_reducible apply blockK_hit);exact rfl))
  refine endsK_ret _ (.cons (.tmp rfl) .nil) (AtO.mk [0,1,2,3,4,5] rfl rfl rfl hE (by (repeat' (first|exact trivial|exact rfl|apply And.intro));done) ?_)
  rfl
end Go.Proofs.Ytjhloakacicdiaa
