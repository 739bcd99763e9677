/-
  What the functions that the law reaches compute,told by plain data;it holds of programs that pass the check of right form and are light.
-/
import Derived.Carry
import Derived.LaidMore
import Derived.Lib.LaidTab
import Derived.OpenShut
import Derived.ProofKit
import Derived.Stop.Joined
import Derived.Test.YtjhloakacicdiaaDoorCards
import Derived.Test.YtjhloakacicdiaaDoorChecked
import Derived.Test.YtjhloakacicdiaaDoorR1
import Derived.Test.YtjhloakacicdiaaDoorR13
import Derived.Test.YtjhloakacicdiaaDoorR17
import Derived.Test.YtjhloakacicdiaaDoorR19
import Derived.Test.YtjhloakacicdiaaDoorR20
import Derived.Test.YtjhloakacicdiaaDoorR8
import Derived.Test.YtjhloakacicdiaaDoorR9
import Derived.Test.YtjhloakacicdiaaDoorS2
import Derived.Test.YtjhloakacicdiaaDoorTie
set_option linter.unusedVariables false
set_option linter.unusedSimpArgs false
namespace Go.Proofs.YtjhloakacicdiaaDoor
open Go.AH
attribute [local irreducible] W RS
theorem light_show {p:ProgS} (hok:p.ok) (hl:lightP p=true) (hr:rightP p=true) {f:FuncS} (hf:f∈p.funcs):ShowB f.blocks:=by
 obtain ⟨ho,hc⟩:=light_right hok hl hr f hf
 have hfo:=hok.funcs f hf
 have hrf:∀ b∈f.blocks,b.term.kind=2→0≤b.term.op∧b.term.op < 31:=by
  intro b hb hk
  unfold rightP at hr
  simp only [Bool.and_eq_true,decide_eq_true_eq] at hr
  have h1:=List.all_eq_true.1 hr.2 f hf
  unfold funcOK at h1
  simp only [Bool.and_eq_true,decide_eq_true_eq] at h1
  have h2:=List.all_eq_true.1 h1.2 b hb
  unfold blockOK endsS at h2
  simp only [Bool.and_eq_true,decide_eq_true_eq,Bool.or_eq_true,Bool.not_eq_true',beq_eq_false_iff_ne,ne_eq] at h2
  rcases h2.2.1.2 with h3|h3
  ·exact absurd hk h3
  ·omega
 unfold lightP at hl
 simp only [Bool.and_eq_true,decide_eq_true_eq] at hl
 obtain ⟨m,hm⟩:=Option.isSome_iff_exists.1 hl.2
 obtain ⟨_,_,_,_,l6⟩:=lightF_le hm f hf
 refine ⟨fun b hb=>⟨fun x hx=>⟨(hfo.blocks b hb).ins x hx,by have:=l6 b hb x hx;omega⟩,?_⟩,ho.len,ho.size⟩
 have ht:=(hfo.blocks b hb).term
 exact ⟨ht.a,ht.b,ht.goto,ht.els,hrf b hb⟩
theorem pairR_pre {x y:Rk} (xw:x.wb=false) (xe:x.eb=none) (xvl:x.vl=[]) (xk:x.k=x.k') (xww:x.w=[]) (yw:y.wb=false) (ye:y.eb=none) (hk:x.k'≤y.k):pairR x y=true:=by
 have hb:Nat.beq x.k x.k'=true:=by rw [xk];simp
 have c1:crossB x y=true:=by
  have hall:(y.vl.all fun j=>!memL j x.w && (Nat.blt j x.k || Nat.ble x.k' j))=true:=by
   rw [List.all_eq_true]
   intro j _
   rw [xww,xk]
   by_cases h:j < x.k'
   ·have:=blt_iff.2 h;simp [memL,this]
   ·have:=ble_iff.2 (Nat.le_of_not_lt h);simp [memL,this]
  unfold crossB
  rw [hall,xw,xe,xww,ble_iff.2 hk]
  simp [noneB]
 have c2:crossB y x=true:=by
  unfold crossB
  rw [yw,ye,xvl,hb]
  simp [noneB]
 unfold pairR
 rw [c1,c2,ble_iff.2 hk,hb];rfl
theorem fsizeS_eq (bl:List BlockS):fsizeS bl=sizeS bl+bl.length:=by
 induction bl with
 | nil=>rfl
 | cons b l ih=>unfold fsizeS sizeS at *;simp only [List.length_cons,List.map_cons,List.sum_cons];omega
theorem psizeL_bd {l:List FuncS} {m:Nat} (h:∀ f∈l,fsizeS f.blocks≤m):psizeL l≤l.length * m:=by
 induction l with
 | nil=>simp [psizeL]
 | cons f l ih =>
  have h1:=h f (by simp)
  have h2:=ih fun g hg=>h g (by simp [hg])
  unfold psizeL at h2 ⊢
  simp only [List.length_cons,List.map_cons,List.sum_cons,Nat.succ_mul]
  omega
theorem light_psize {p:ProgS} (hok:p.ok) (hl:lightP p=true) (hr:rightP p=true):psizeL p.funcs≤1000000000:=by
 have hLF:=light_right hok hl hr
 have h1:=psizeL_bd (l:=p.funcs) (m:=1100000) fun f hf=>by
  rw [fsizeS_eq]
  have:=(hLF f hf).1.size
  have:=(hLF f hf).1.len
  omega
 have h2:=(lightP_all hl).nf
 have h3:=Nat.mul_le_mul_right 1100000 h2
 omega
theorem light_showOK {p:ProgS} (hok:p.ok) (hl:lightP p=true) (hr:rightP p=true) (hnm:∀ f∈p.funcs,f.name.data.size≤140737488351232):∀ f∈p.funcs,ShowOK f :=
 fun f hf=>(light_show hok hl hr hf).ok (hok.funcs f hf).params (hnm f hf)
set_option maxRecDepth 100000 in
set_option maxHeartbeats 0 in
theorem FoldKeeps_tf (h:Hp) (hg:GT h) (hnt:NT h) (p:ProgS) (hok:p.ok) (hnm:∀ f∈p.funcs,f.name.data.size≤140737488351232) (P1:Option Addr) (d1:Nat) (P2:Option Addr) (d2:Nat) (hfs:SlAt h P1 6 p.funcs (funcRS h)) (hgs:SlAt h P2 4 p.globals (globR h))
 (A1:Option Addr) (k1 c1:Nat) (A2:Option Addr) (k2 c2:Nat) (A3:Option Addr) (k3 c3:Nat) (A4:Option Addr) (k4 c4:Nat) (pub sec pub' sec':List Int) (hi1:InRow h A1 k1 c1 pub) (hi2:InRow h A2 k2 c2 sec) (hi3:InRow h A3 k3 c3 pub') (hi4:InRow h A4 k4 c4 sec') :
 TF Tryd.prog 7 ⟨[.agg ⟨progC p P1 d1 P2 d2⟩,.agg ⟨[.slice A1 k1 c1,.slice A2 k2 c2]⟩,.agg ⟨[.slice A3 k3 c3,.slice A4 k4 c4]⟩]⟩ h (.bool true) h:=by
 refine TF.exact (fn:=Tryd.f7) (c:=(Tryd.f7.body.getD .skip)) Tryd.func7 (by kernel_rfl) Tryd.ntmps7 (by kernel_rfl) (fun s0=>⟨Nat.le_refl _,by simp,fun i b hb=>⟨s0.dom i b hb,s0.bd i b hb⟩⟩) fun π s0=>?_
 conv=>arg 2;whnf
 ((with_reducible apply W.seq);repeat (first|refine Y34 ?_|refine Y0 ?_|refine Y1 ?_|refine Yu ?_))
 refine W.absorbX fun B0 π0 a0=>?_
 have m0:B0.m (π 0)=some ⟨⟨progC p P1 d1 P2 d2⟩,25⟩:=a0.loc 0 (by decide:(0:Nat) < 3)
 have m1:B0.m (π 1)=some ⟨⟨[.slice A1 k1 c1,.slice A2 k2 c2]⟩,30⟩:=a0.loc 1 (by decide:(1:Nat) < 3)
 have m2:B0.m (π 2)=some ⟨⟨[.slice A3 k3 c3,.slice A4 k4 c4]⟩,30⟩:=a0.loc 2 (by decide:(2:Nat) < 3)
 generalize π 0=pb at *
 generalize π 1=ib at *
 generalize π 2=jb at *
 have n0:=a0.dom _ _ m0
 have n1':=a0.dom _ _ m1
 have n2':=a0.dom _ _ m2
 replace hfs:=hfs.mono a0.up fun _ _ h=>funcRS_mono a0.up h
 replace hgs:=hgs.mono a0.up fun _ _ h=>globR_mono a0.up h
 replace hg:=hg.up a0.up
 replace hnt:=hnt.up a0.up
 replace hi1:=hi1.up a0.up
 replace hi2:=hi2.up a0.up
 replace hi3:=hi3.up a0.up
 replace hi4:=hi4.up a0.up
 have hpv:∀ v∈progC p P1 d1 P2 d2,bnd B0.n v:=fun v hv=>a0.sat.bd _ _ m0 v (by simpa using hv)
 have hiv:∀ v∈[Value.slice A1 k1 c1,.slice A2 k2 c2],bnd B0.n v:=fun v hv=>a0.sat.bd _ _ m1 v (by simpa using hv)
 have hov:∀ v∈[Value.slice A3 k3 c3,.slice A4 k4 c4],bnd B0.n v:=fun v hv=>a0.sat.bd _ _ m2 v (by simpa using hv)
 obtain ⟨sb,hsb⟩:∃ sb,(lightP p && rightP p && shortN k1 k2 && shortN k3 k4)=sb:=⟨_,rfl⟩
 have hsm:∀ B',(∀ i b,B0.m i=some b→B'.m i=some b)→TF Tryd.prog 9 ⟨[.agg ⟨progC p P1 d1 P2 d2⟩,.agg ⟨[.slice A1 k1 c1,.slice A2 k2 c2]⟩,.agg ⟨[.slice A3 k3 c3,.slice A4 k4 c4]⟩]⟩ B' (.bool sb) B':=by
  intro B' hu
  rw [← hsb]
  exact small_tf p hok B' P1 d1 P2 d2 (hfs.mono hu fun _ _ h=>funcR_mono hu h.r) (hgs.mono hu fun _ _ h=>globR_mono hu h) A1 k1 c1 A2 k2 c2 A3 k3 c3 A4 k4 c4
 cases sb with
 | false =>
  repeat (first|((with_reducible apply (RS.callA (g0:=34)));(iterate 3 exact rfl);exact fun B' hB'=>fit12_tf B')|refine Yz ?_|((with_reducible apply (RS.callA (g0:=9)));(iterate 3 exact rfl);exact fun B' hB'=>hsm B' hB'.up)|((with_reducible first|apply RS.assign|apply RS.not);iterate 3 exact rfl)|refine Y0 ?_|refine Y2k ?_|refine Y1 ?_|refine Y6 ?_|refine Y5 ?_)
  exact endsK_ret _ (.cons (.tmp rfl) .nil) fun B' a=>⟨rfl,fun j x hj=>a.up _ _ (a0.up _ _ hj)⟩
 | true =>
  have hlr:lightP p=true∧rightP p=true:=by
   simp only [Bool.and_eq_true] at hsb
   exact hsb.1.1
  have hLF:=light_right hok hlr.1 hlr.2
  have hIn:=right_ins hok hlr.2
  have hLp:=lightP_all hlr.1
  have hnf:p.funcs.length≤10000:=by have:=hLp.nf;omega
  have hK:∀ f∈p.funcs,(OkL f.regs f.blocks∧InsOK f)∧CopyOK f:=fun f hf=>⟨⟨(hLF f hf).1,hIn f hf⟩,(hLF f hf).2⟩
  have hSh:=light_showOK hok hlr.1 hlr.2 hnm
  have hsz:=light_psize hok hlr.1 hlr.2
  obtain ⟨tx,htx⟩:∃ tx,progT p.funcs=tx:=⟨_,rfl⟩
  have hSw:∀ B',(∀ i b,B0.m i=some b→B'.m i=some b)→TF Tryd.prog 25 ⟨[.agg ⟨progC p P1 d1 P2 d2⟩]⟩ B' (.string tx) B':=by
   intro B' hu
   rw [← htx]
   exact progT_tf p (by omega) hSh P1 d1 P2 d2 B' (hg.up hu) (hnt.up hu) (hfs.mono hu fun _ _ h=>funcRS_mono hu h)
  have hKeep:∀ (H1:Hp) (ob:Nat) (A:Option Addr) (c:Nat) (fs:List FuncS),(∀ i b,B0.m i=some b→H1.m i=some b)→H1.m ob=some ⟨⟨progC { p with funcs:=fs } A c P2 d2⟩,25⟩→SlAt H1 A 6 fs (funcRS H1)→fs.length=p.funcs.length→(∀ (i:Nat) (f f':FuncS),p.funcs[i]?=some f→fs[i]?=some f'→FoldR f f') →
   TF Tryd.prog 33 ⟨[.agg ⟨progC p P1 d1 P2 d2⟩,.pointer (some ⟨ob,0,none⟩),.string tx,.agg ⟨[.slice A1 k1 c1,.slice A2 k2 c2]⟩,.agg ⟨[.slice A3 k3 c3,.slice A4 k4 c4]⟩]⟩ H1 (.bool true) H1:=by
   intro H1 ob A c fs up1 hO hS hfl hR
   rw [← htx]
   have hT:TurnP FoldR' p { p with funcs:=fs }:=⟨rfl,rfl,rfl,hfl,hR⟩
   exact Keeps_tf p _ hok hLp hlr.2 hSh hsz (fold_keeps hT hok hlr.1 hlr.2) H1 (hg.up up1) (hnt.up up1) P1 d1 P2 d2 (hfs.mono up1 fun _ _ h=>funcRS_mono up1 h) (hgs.mono up1 fun _ _ h=>globR_mono up1 h) ob _ A c P2 d2 ⟨hO,hS.mono (fun _ _ h=>h) fun _ _ h=>h.r,hgs.mono up1 fun _ _ h=>globR_mono up1 h⟩
    A1 k1 c1 A2 k2 c2 A3 k3 c3 A4 k4 c4 pub sec pub' sec' (hi1.up up1) (hi2.up up1) (hi3.up up1) (hi4.up up1)
  clear htx
  ((with_reducible apply W.seq);repeat (fail))
  ((with_reducible apply W.seq);repeat (first|((with_reducible apply (RS.callA (g0:=34)));(iterate 3 exact rfl);exact fun B' hB'=>fit12_tf B')|((with_reducible apply RS.not);iterate 3 exact rfl)|refine Y0 ?_|refine Y1 ?_|refine Y2i ?_|refine Y5 ?_))
  ((with_reducible apply W.seq);repeat (fail))
  ((with_reducible apply W.seq);repeat (first|refine Yz ?_|((with_reducible apply (RS.callA (g0:=9)));(iterate 3 exact rfl);exact fun B' hB'=>hsm B' hB'.up)|((with_reducible apply RS.not);iterate 3 exact rfl)|refine Y0 ?_|refine Y1 ?_|refine Y2i ?_|refine Y5 ?_))
  ((with_reducible apply W.seq);repeat (first|refine Y3g ?_|((with_reducible apply (RS.callA (g0:=25)));(iterate 3 exact rfl);exact fun B' hB'=>hSw B' hB'.up)|refine Y19 ?_|refine Y0 ?_|refine Y1 ?_|refine Yu ?_))
  ((with_reducible apply W.seq);repeat (first|refine Yz ?_|((with_reducible apply RS.moveX);(iterate 3 exact rfl);exact (show bnd B0.n (.string tx) by simp))|((with_reducible apply (RS.callY (g0:=35)));(iterate 4 exact rfl);intro B1 he1 hB1;refine ⟨_,fold_prog_ex p hK (by omega) B1 pb _ _ _ _ _ (hB1.up _ _ m0) (hfs.mono hB1.up fun _ _ h=>funcRS_mono hB1.up h),(fun v H' ⟨_,_,_,_,_,_,_,_,_,ho,_⟩ i hi=>ho.2 i (Nat.lt_of_lt_of_le hi hB1.le)),?_⟩;rintro v H1 j1 l1 ⟨ob,A,c,fs,rfl,hO,hS,hfl,hR,ho,hlo⟩ sH1 hle1 hden1 hwf1 hk1)|((with_reducible apply (RS.callY (g0:=33)));(iterate 4 exact rfl);intro B5 he5 hB5;rw [hden1] at he5;subst he5;refine ⟨_,TF.ex (hKeep H1 ob A c fs ((hB1.oldH.trans ho).up a0.dom) hO hS hfl hR),(fun v H' ⟨_,e⟩ i hi=>by rw [e]),?_⟩;rintro v H5 j5 l5 ⟨rfl,rfl⟩ sH5 hle5 hden5 hwf5 hk5)|((with_reducible apply (RS.nilP mixed [(0,1),(1,2),(0,2),(2,3),(1,3),(0,3),(3,4),(2,4),(1,4),(0,4)]));kernel_rfl;(have q7:0≤j1:=hk1);(repeat (refine ⟨fun x y hx hy=>(by obtain rfl:=Option.some.inj hx;obtain rfl:=Option.some.inj hy;(first|exact pairR_pre rfl rfl rfl rfl rfl rfl rfl (by simp only [recY,recP];omega)|exact pairR_calm rfl rfl rfl rfl rfl rfl rfl (by simp only [recY,recP];omega) (fun j hj=>by (first|(simp [recY,recP] at hj;done)|(simp [recY,recP] at hj ⊢;omega))) (by first|exact .inl rfl|exact .inr ⟨rfl,rfl⟩))),?_⟩));exact trivial;exact rfl)|refine Y19 ?_|refine Y1 ?_|(with_reducible first|apply W.ret|apply thenK_n)))
  exact endsK_ret _ (.cons (.tmp rfl) .nil) fun B' a=>⟨rfl,fun j x hj=>a.up _ _ (a0.up _ _ hj)⟩
variable {H:Type} {enc:TypeId × Value→H} {G:Nat} {g0:Nat→Option Blk} {W:World}
theorem RowΦ_list {T:Type} {R:Hp→List Value→T→Prop} {K:T→Prop} {w M:Nat} {h:Hp} {acs:List Value} (hr:RowΦ w M (fun h a=>∃ x,R h a x∧K x) h acs) :
 ∃ (A:Option Addr) (c:Nat) (l:List T),acs=[.slice A l.length c]∧SlAt h A w l (R h)∧(∀ x∈l,K x)∧l.length≤M∧l.length≤c∧c < capMark∧(A=none→c=0):=by
 obtain ⟨A,c,accs,e,r,h1,h2,h3,h4⟩:=hr
 have build:∀ al:List (List Value),(∀ a∈al,∃ x,R h a x∧K x)→∃ l:List T,l.length=al.length∧(∀ x∈l,K x)∧∀ (i:Nat) (x:T),l[i]?=some x→∃ a,al[i]?=some a∧R h a x:=by
  intro al
  induction al with
  | nil=>intro _;exact ⟨[],rfl,(fun x hx=>by cases hx),fun i x hx=>by simp at hx⟩
  | cons a al ih =>
   intro ha
   obtain ⟨x,hx,hk⟩:=ha a (by simp)
   obtain ⟨l,q1,q2,q3⟩:=ih fun b hb=>ha b (by simp [hb])
   refine ⟨x::l,by simp [q1],fun y hy=>?_,fun i y hy=>?_⟩
   ·rcases List.mem_cons.1 hy with rfl|hy
    ·exact hk
    ·exact q2 y hy
   ·cases i with
    | zero=>simp at hy;subst hy;exact ⟨a,rfl,hx⟩
    | succ i=>simpa using q3 i y (by simpa using hy)
 obtain ⟨l,q1,q2,q3⟩:=build accs fun a ha=>(r.all a ha).1
 refine ⟨A,c,l,by rw [q1];exact e,⟨fun i x hx=>?_⟩,q2,by omega,by omega,h3,h4⟩
 obtain ⟨a,ha,hR⟩:=q3 i x hx
 have ham:=List.mem_of_getElem? ha
 obtain ⟨b,e',hA,hb⟩:=r.at_ (fun hn=>by rw [hn] at ham;cases ham)
 have hwid:∀ x∈accs,x.length=w:=fun x hx=>(r.all x hx).2
 have hi:=(List.getElem?_eq_some_iff.1 ha).1
 refine ⟨b,0,accs.flatten,e',hA,hb,?_,?_⟩
 ·rw [flat_len hwid]
  have:(i+1) * w≤accs.length * w:=Nat.mul_le_mul_right _ hi
  rw [Nat.succ_mul] at this;omega
 ·have:takeV (0+i * w) w accs.flatten=a:=by
   rw [takeV_eq]
   apply List.ext_getElem?
   intro j
   rw [List.getElem?_take]
   by_cases hj:j < w
   ·rw [if_pos hj,List.getElem?_drop,Nat.zero_add,flat_get hwid i j hj,ha];rfl
   ·rw [if_neg hj,List.getElem?_eq_none (by rw [hwid a ham];omega)]
  rw [this];exact hR
theorem i64_fit {n:Int} (h1:IntKind.i64.min≤n) (h2:n≤IntKind.i64.max):fitI n:=by
 have e1:IntKind.i64.min=-9223372036854775808:=by decide
 have e2:IntKind.i64.max=9223372036854775807:=by decide
 rw [e1] at h1;rw [e2] at h2
 exact ⟨h1,h2⟩
def intΦ (_:Hp) (acs:List Value):Prop:=∃ n,acs=[.int .i64 n]∧fitI n
theorem D_int {t:TypeId} {cs:List Value} (ht:Tryd.prog.underlying t=some (.int .i64)) (h:TW enc Tryd.prog W t cs):D G g0 W cs 0 intΦ:=(D.int ht h).mono (Nat.le_refl _) fun _ _ _ ⟨n,e,h1,h2⟩=>⟨n,e,i64_fit h1 h2⟩
theorem up_int:UpΦ intΦ:=fun _ _ _ _ h=>h
def argΦ (_:Hp) (acs:List Value):Prop:=∃ a,argR acs a∧ArgS.ok a
theorem up_arg:UpΦ argΦ:=fun _ _ _ _ h=>h
theorem D_arg {cs:List Value} (h:TW enc Tryd.prog W 46 cs):D G g0 W cs 0 argΦ:=by
 obtain ⟨hl,hf⟩:=h.fields (l:=[(3,0,1),(2,1,1)]) (n:=2) (by kernel_rfl) (by kernel_rfl)
 have:=SegD.d (g0:=g0) (G:=G) (off:=0) (cs:=cs) (W:=W) (l:=[(1,0,intΦ),(1,0,intΦ)]) ⟨up_int,D_int (by kernel_rfl) (hf (3,0,1) (by simp)),up_int,D_int (by kernel_rfl) (hf (2,1,1) (by simp)),hl⟩
 refine D.mono this (by simp [segN]) ?_
 rintro H acs _ ⟨_,_,rfl,⟨a,rfl,ha⟩,_,_,rfl,⟨b,rfl,hb⟩,rfl⟩
 exact ⟨⟨a,b⟩,rfl,ha,hb⟩
def argsΦ:Hp→List Value→Prop:=RowΦ 2 reachBytes argΦ
def insΦ (h:Hp) (acs:List Value):Prop:=∃ x,insR h acs x∧InsS.ok x
theorem up_ins:UpΦ insΦ:=fun _ _ _ hm ⟨x,hx,hk⟩=>⟨x,insR_mono hm hx,hk⟩
def boolΦ (_:Hp) (acs:List Value):Prop:=∃ b,acs=[.bool b]
theorem up_bool:UpΦ boolΦ:=fun _ _ _ _ h=>h
def strΦ (_:Hp) (acs:List Value):Prop:=∃ s:ByteArray,acs=[.string s]∧s.size≤reachBytes
theorem up_str:UpΦ strΦ:=fun _ _ _ _ h=>h
theorem D_ins {cs:List Value} (h:TW enc Tryd.prog W 58 cs):D G g0 W cs 1 insΦ:=by
 obtain ⟨hl,hf⟩:=h.fields (l:=[(3,0,1),(3,1,1),(46,2,2),(46,4,2),(3,6,1),(4,7,1),(4,8,1),(3,9,1),(2,10,1),(54,11,1)]) (n:=12) (by kernel_rfl) (by kernel_rfl)
 have:=SegD.d (g0:=g0) (G:=G) (off:=0) (cs:=cs) (W:=W) (l:=[(1,0,intΦ),(1,0,intΦ),(2,0,argΦ),(2,0,argΦ),(1,0,intΦ),(1,0,boolΦ),(1,0,boolΦ),(1,0,intΦ),(1,0,intΦ),(1,reachBytes * 0+1,argsΦ)])
  ⟨up_int,D_int (by kernel_rfl) (hf (3,0,1) (by simp)),up_int,D_int (by kernel_rfl) (hf (3,1,1) (by simp)),up_arg,D_arg (hf (46,2,2) (by simp)),up_arg,D_arg (hf (46,4,2) (by simp)),up_int,D_int (by kernel_rfl) (hf (3,6,1) (by simp)),up_bool,D.bool (by kernel_rfl) (hf (4,7,1) (by simp)),up_bool,D.bool (by kernel_rfl) (hf (4,8,1) (by simp)),up_int,D_int (by kernel_rfl) (hf (3,9,1) (by simp)),up_int,D_int (by kernel_rfl) (hf (2,10,1) (by simp)),RowΦ.up up_arg,D.row (e:=46) up_arg (by kernel_rfl) (by kernel_rfl) (by decide) (Nat.le_of_ble_eq_true (by kernel_rfl)) (fun c hc=>D_arg hc) (hf (54,11,1) (by simp)),hl⟩
 refine D.mono this (by simp [segN]) ?_
 rintro H acs _ ⟨_,_,rfl,⟨op,rfl,h1⟩,_,_,rfl,⟨dst,rfl,h2⟩,_,_,rfl,⟨a,rfl,h3⟩,_,_,rfl,⟨b,rfl,h4⟩,_,_,rfl,⟨size,rfl,h5⟩,_,_,rfl,⟨sg,rfl⟩,_,_,rfl,⟨sc,rfl⟩,_,_,rfl,⟨ref,rfl,h6⟩,_,_,rfl,⟨off,rfl,h7⟩,_,_,rfl,hr,rfl⟩
 obtain ⟨A,c,l,rfl,hs,hk,hn,_⟩:=RowΦ_list (R:=fun _=>argR) hr
 exact ⟨⟨op,dst,a,b,size,sg,sc,ref,off,l⟩,⟨A,c,rfl,hs⟩,h1,h2,h3,h4,h5,h6,h7,Nat.le_trans hn (by decide),hk⟩
def termΦ (_:Hp) (acs:List Value):Prop:=∃ t,acs=termC t∧TermS.ok t
theorem up_term:UpΦ termΦ:=fun _ _ _ _ h=>h
theorem D_term {cs:List Value} (h:TW enc Tryd.prog W 48 cs):D G g0 W cs 0 termΦ:=by
 obtain ⟨hl,hf⟩:=h.fields (l:=[(3,0,1),(3,1,1),(46,2,2),(46,4,2),(3,6,1),(3,7,1)]) (n:=8) (by kernel_rfl) (by kernel_rfl)
 have:=SegD.d (g0:=g0) (G:=G) (off:=0) (cs:=cs) (W:=W) (l:=[(1,0,intΦ),(1,0,intΦ),(2,0,argΦ),(2,0,argΦ),(1,0,intΦ),(1,0,intΦ)])
  ⟨up_int,D_int (by kernel_rfl) (hf (3,0,1) (by simp)),up_int,D_int (by kernel_rfl) (hf (3,1,1) (by simp)),up_arg,D_arg (hf (46,2,2) (by simp)),up_arg,D_arg (hf (46,4,2) (by simp)),up_int,D_int (by kernel_rfl) (hf (3,6,1) (by simp)),up_int,D_int (by kernel_rfl) (hf (3,7,1) (by simp)),hl⟩
 refine D.mono this (by simp [segN]) ?_
 rintro H acs _ ⟨_,_,rfl,⟨k,rfl,h1⟩,_,_,rfl,⟨op,rfl,h2⟩,_,_,rfl,⟨a,rfl,h3⟩,_,_,rfl,⟨b,rfl,h4⟩,_,_,rfl,⟨g,rfl,h5⟩,_,_,rfl,⟨e,rfl,h6⟩,rfl⟩
 exact ⟨⟨k,op,a,b,g,e⟩,rfl,h1,h2,h3,h4,h5,h6⟩
def blockΦ (h:Hp) (acs:List Value):Prop:=∃ x,blockR h acs x∧BlockS.ok x
theorem up_block:UpΦ blockΦ:=fun _ _ _ hm ⟨x,hx,hk⟩=>⟨x,blockR_mono hm hx,hk⟩
theorem D_block {cs:List Value} (h:TW enc Tryd.prog W 50 cs):D G g0 W cs (reachBytes * 1+1) blockΦ:=by
 obtain ⟨hl,hf⟩:=h.fields (l:=[(44,0,1),(48,1,8)]) (n:=9) (by kernel_rfl) (by kernel_rfl)
 have:=SegD.d (g0:=g0) (G:=G) (off:=0) (cs:=cs) (W:=W) (l:=[(1,reachBytes * 1+1,RowΦ 12 reachBytes insΦ),(8,0,termΦ)])
  ⟨RowΦ.up up_ins,D.row (e:=58) up_ins (by kernel_rfl) (by kernel_rfl) (by decide) (Nat.le_of_ble_eq_true (by kernel_rfl)) (fun c hc=>D_ins hc) (hf (44,0,1) (by simp)),up_term,D_term (hf (48,1,8) (by simp)),hl⟩
 refine D.mono this (by simp [segN]) ?_
 rintro H acs _ ⟨_,_,rfl,hr,_,_,rfl,⟨t,rfl,ht⟩,rfl⟩
 obtain ⟨A,c,l,rfl,hs,hk,hn,_⟩:=RowΦ_list (R:=insR) hr
 exact ⟨⟨l,t⟩,⟨A,c,rfl,hs⟩,Nat.le_trans hn (by decide),hk,ht⟩
def funcΦ (h:Hp) (acs:List Value):Prop:=∃ x,funcR h acs x∧FuncS.ok x
def nFunc:Nat:=1+1+(reachBytes * (reachBytes * 1+1)+1)
def byteΦ (_:Hp) (acs:List Value):Prop:=∃ n,byteR acs n∧(0≤n∧n≤255)
theorem up_byte:UpΦ byteΦ:=fun _ _ _ _ h=>h
theorem D_byte {cs:List Value} (h:TW enc Tryd.prog W 5 cs):D G g0 W cs 0 byteΦ:=(D.int (k:=.u8) (by kernel_rfl) h).mono (Nat.le_refl _) fun _ _ _ ⟨n,e,h1,h2⟩=>by
 have e1:IntKind.u8.min=0:=by decide
 have e2:IntKind.u8.max=255:=by decide
 rw [e1] at h1;rw [e2] at h2
 exact ⟨n,e,h1,h2⟩
def partΦ (h:Hp) (acs:List Value):Prop:=∃ x,partR h acs x∧PartS.ok x
theorem up_part:UpΦ partΦ:=fun _ _ _ hm ⟨x,hx,hk⟩=>⟨x,partR_mono hm hx,hk⟩
theorem D_part {cs:List Value} (h:TW enc Tryd.prog W 113 cs):D G g0 W cs 1 partΦ:=by
 obtain ⟨hl,hf⟩:=h.fields (l:=[(3,0,1),(28,1,1),(3,2,1)]) (n:=3) (by kernel_rfl) (by kernel_rfl)
 have:=SegD.d (g0:=g0) (G:=G) (off:=0) (cs:=cs) (W:=W) (l:=[(1,0,intΦ),(1,reachBytes * 0+1,RowΦ 1 reachBytes byteΦ),(1,0,intΦ)])
  ⟨up_int,D_int (by kernel_rfl) (hf (3,0,1) (by simp)),RowΦ.up up_byte,D.row (e:=5) up_byte (by kernel_rfl) (by kernel_rfl) (by decide) (Nat.le_of_ble_eq_true (by kernel_rfl)) (fun c hc=>D_byte hc) (hf (28,1,1) (by simp)),up_int,D_int (by kernel_rfl) (hf (3,2,1) (by simp)),hl⟩
 refine D.mono this (by simp [segN]) ?_
 rintro H acs _ ⟨_,_,rfl,⟨k,rfl,h1⟩,_,_,rfl,hr,_,_,rfl,⟨n,rfl,h2⟩,rfl⟩
 obtain ⟨A,c,l,rfl,hs,hk,hn,_⟩:=RowΦ_list (R:=fun _=>byteR) hr
 exact ⟨⟨k,l,n⟩,⟨A,c,rfl,hs⟩,h1,h2,Nat.le_trans hn (by decide),hk⟩
def globΦ (h:Hp) (acs:List Value):Prop:=∃ x,globR h acs x∧GlobS.ok x
theorem up_glob:UpΦ globΦ:=fun _ _ _ hm ⟨x,hx,hk⟩=>⟨x,globR_mono hm hx,hk⟩
theorem D_glob {cs:List Value} (h:TW enc Tryd.prog W 111 cs):D G g0 W cs (reachBytes * 1+1) globΦ:=by
 obtain ⟨hl,hf⟩:=h.fields (l:=[(9,0,1),(3,1,1),(3,2,1),(109,3,1)]) (n:=4) (by kernel_rfl) (by kernel_rfl)
 have:=SegD.d (g0:=g0) (G:=G) (off:=0) (cs:=cs) (W:=W) (l:=[(1,0,strΦ),(1,0,intΦ),(1,0,intΦ),(1,reachBytes * 1+1,RowΦ 3 reachBytes partΦ)])
  ⟨up_str,D.string (by kernel_rfl) (hf (9,0,1) (by simp)),up_int,D_int (by kernel_rfl) (hf (3,1,1) (by simp)),up_int,D_int (by kernel_rfl) (hf (3,2,1) (by simp)),RowΦ.up up_part,D.row (e:=113) up_part (by kernel_rfl) (by kernel_rfl) (by decide) (Nat.le_of_ble_eq_true (by kernel_rfl)) (fun c hc=>D_part hc) (hf (109,3,1) (by simp)),hl⟩
 refine D.mono this (by simp [segN]) ?_
 rintro H acs _ ⟨_,_,rfl,⟨nm,rfl,_⟩,_,_,rfl,⟨pl,rfl,h1⟩,_,_,rfl,⟨sz,rfl,h2⟩,_,_,rfl,hr,rfl⟩
 obtain ⟨A,c,l,rfl,hs,hk,hn,_⟩:=RowΦ_list (R:=partR) hr
 exact ⟨⟨nm,pl,sz,l⟩,⟨A,c,rfl,hs⟩,h1,h2,Nat.le_trans hn (by decide),hk⟩
def progΦ (h:Hp) (acs:List Value):Prop:=∃ x,progR h acs x∧ProgS.ok x
def nProg:Nat:=reachBytes * nFunc+1+(reachBytes * (reachBytes * 1+1)+1)
end Go.Proofs.YtjhloakacicdiaaDoor
namespace Go.Proofs.YtjhloakacicdiaaDoor
open Go.AH Go.ChangeShapes Go.WideShapes Go.ChangeAt Go.RowKit
variable {H:Type} {enc:TypeId × Value→H} {W:World} {G:Nat} {g0:Nat→Option Blk}
theorem okWide_slot {P:Program} {r:Go.Reach} {base:Nat} {t u:TypeId} {ts:List TypeId} {cs:Array Value} {a:Addr} {n c i:Nat} {e:TypeId} (hs:∃ fs,P.underlying t=some (.struct fs)) (ht:P.cellTypes P.depth t=some ts) (h:Value.okWide P W r base t (.agg cs)) (hi:cs[i]?=some (.slice (some a) n c)) (hu:ts[i % ts.length]?=some u) (he:P.underlying u=some (.slice e)):a.spot=none:=by
 obtain ⟨fs,hs⟩:=hs
 simp only [Value.okWide,hs] at h
 obtain ⟨cs',h1,_,ts',h2,_,h3⟩:=h
 injection h1 with h1
 subst h1
 rw [ht] at h2
 injection h2 with h2
 subst h2
 obtain ⟨u',h4,h5⟩:=h3 i _ hi
 rw [hu] at h4
 injection h4 with h4
 subst h4
 simp only [Cell.okWide,Cell.ok,he] at h5
 exact h5.2.2.2.1
theorem trodAll_below {P:Program} (hl:laidOutB P=true) {W W':World} (hb:Below W.heap.size W W'):∀ {ts:List TypeId} {vs:List Value} {ds:List (DataW H)} {ps:List MemPlace},(∀ t∈ts,P.readableRec t=true∧t < P.types.size)→(∀ x∈ps,x.block < W.heap.size)→DataW.TrodAll enc P W 0 (fun _=>true) true ts vs ds ps→DataW.TrodAll enc P W' 0 (fun b=>decide (b < W.heap.size)) true ts vs ds ps:=by
 intro ts
 induction ts with
 | nil =>
  intro vs ds ps _ _ h
  cases vs with
  | nil=>cases ds with
   | nil=>exact h
   | cons d ds=>exact h.elim
  | cons v vs=>exact h.elim
 | cons t ts ih =>
  intro vs ds ps ht hx h
  cases vs with
  | nil=>exact h.elim
  | cons v vs =>
   cases ds with
   | nil=>exact h.elim
   | cons d ds =>
    obtain ⟨p,q,h1,h2,rfl⟩:=h
    exact ⟨p,q,Below.trod hl (ht t (by simp)).1 (ht t (by simp)).2 h1 hb fun x hx'=>hx x (by simp [hx']),ih (fun t ht'=>ht t (by simp [ht'])) (fun x hx'=>hx x (by simp [hx'])) h2,rfl⟩
theorem Tryd.own:ownKnob Tryd.prog.godebug=none:=by kernel_rfl
theorem Tryd.laidOut:laidOutB Tryd.prog=true:=by kernel_rfl
theorem TW.of {P:Program} {W:World} {t:TypeId} {v:Value} {d:DataW H} {p:List MemPlace} (h:DataW.Trod enc P W 0 (fun _=>true) true t v d p) (hw:okW (d.weights P t)):TW enc P W t v.cells.toList:=by
 obtain ⟨fuel,h⟩:=h
 exact ⟨fuel,(d,p),h,hw⟩
theorem shutB {P:Program} {W:World} {base:Nat} {sp:Nat→Bool} {held:Bool} {t:TypeId} {b:Bool} (ht:P.underlying t=some .bool):DataW.Trod enc P W base sp held t (.bool b) (.lit (.bool b)) []:=⟨1,by simp [DataW.trod,Value.cells,ht]⟩
end Go.Proofs.YtjhloakacicdiaaDoor
namespace Go.Proofs.YtjhloakacicdiaaDoor
open Go.AH Go.ChangeShapes Go.WideShapes Go.ChangeAt Go.RowKit
variable {H:Type} {enc:TypeId × Value→H} {W:World} {G:Nat} {g0:Nat→Option Blk}
def inpΦ (h:Hp) (acs:List Value):Prop:=∃ A1 n1 c1 A2 n2 c2 pub sec,acs=[.slice A1 n1 c1,.slice A2 n2 c2]∧((∀ a,A1=some a→a.spot=none)→InRow h A1 n1 c1 pub)∧((∀ a,A2=some a→a.spot=none)→InRow h A2 n2 c2 sec)
theorem up_inp:UpΦ inpΦ:=fun _ _ _ hm ⟨A1,n1,c1,A2,n2,c2,pub,sec,e,h1,h2⟩=>⟨A1,n1,c1,A2,n2,c2,pub,sec,e,fun h=>(h1 h).up hm,fun h=>(h2 h).up hm⟩
theorem D_input {cs:List Value} (h:TW enc Tryd.prog W 30 cs):D G g0 W cs 2 inpΦ:=by
 obtain ⟨hl,hf⟩:=h.fields (l:=[(28,0,1),(28,1,1)]) (n:=2) (by kernel_rfl) (by kernel_rfl)
 have:=SegD.d (g0:=g0) (G:=G) (off:=0) (cs:=cs) (W:=W) (l:=[(1,reachBytes * 0+1,RowΦ 1 reachBytes byteΦ),(1,reachBytes * 0+1,RowΦ 1 reachBytes byteΦ)])
  ⟨RowΦ.up up_byte,D.row (e:=5) up_byte (by kernel_rfl) (by kernel_rfl) (by decide) (Nat.le_of_ble_eq_true (by kernel_rfl)) (fun c hc=>D_byte hc) (hf (28,0,1) (by simp)),RowΦ.up up_byte,D.row (e:=5) up_byte (by kernel_rfl) (by kernel_rfl) (by decide) (Nat.le_of_ble_eq_true (by kernel_rfl)) (fun c hc=>D_byte hc) (hf (28,1,1) (by simp)),hl⟩
 refine D.mono this (by simp [segN]) ?_
 rintro H acs _ ⟨_,_,rfl,hr1,_,_,rfl,hr2,rfl⟩
 obtain ⟨A1,c1,l1,rfl,hs1,hk1,hn1,hc1,hm1,hz1⟩:=RowΦ_list (R:=fun _=>byteR) hr1
 obtain ⟨A2,c2,l2,rfl,hs2,hk2,hn2,hc2,hm2,hz2⟩:=RowΦ_list (R:=fun _=>byteR) hr2
 exact ⟨A1,l1.length,c1,A2,l2.length,c2,l1,l2,rfl,fun h=>⟨hs1,rfl,hc1,hm1,hz1,h⟩,fun h=>⟨hs2,rfl,hc2,hm2,hz2,h⟩⟩
open Go.AH
variable {H:Type} {enc:TypeId × Value→H} {G:Nat} {g0:Nat→Option Blk} {W:World}
def boolΨ (_:Hp) (acs:List Value):Prop:=∃ b,boolR acs b∧True
theorem up_boolΨ:UpΦ boolΨ:=fun _ _ _ _ h=>h
theorem D_boolΨ {cs:List Value} (h:TW enc Tryd.prog W 4 cs):D G g0 W cs 0 boolΨ:=(D.bool (by kernel_rfl) h).mono (Nat.le_refl _) fun _ _ _ ⟨b,e⟩=>⟨b,e,trivial⟩
def funcΨ (h:Hp) (acs:List Value):Prop:=∃ x,funcRS h acs x∧FuncS.ok x
def progΨ (h:Hp) (acs:List Value):Prop:=∃ p A1 c1 A2 c2,acs=progC p A1 c1 A2 c2∧SlAt h A1 6 p.funcs (funcRS h)∧SlAt h A2 4 p.globals (globR h)∧p.ok
variable {H:Type} {enc:TypeId × Value→H} {G:Nat} {g0:Nat→Option Blk} {W:World}
def funcN (h:Hp) (acs:List Value):Prop:=∃ x,funcRS h acs x∧FuncS.ok x∧x.name.data.size≤140737488351232
theorem up_funcN:UpΦ funcN:=fun _ _ _ hm ⟨x,hx,hk⟩=>⟨x,funcRS_mono hm hx,hk⟩
theorem D_funcN {cs:List Value} (h:TW enc Tryd.prog W 37 cs):D G g0 W cs nFunc funcN:=by
 obtain ⟨hl,hf⟩:=h.fields (l:=[(9,0,1),(3,1,1),(33,2,1),(3,3,1),(34,4,1),(35,5,1)]) (n:=6) (by kernel_rfl) (by kernel_rfl)
 have:=SegD.d (g0:=g0) (G:=G) (off:=0) (cs:=cs) (W:=W) (l:=[(1,0,strΦ),(1,0,intΦ),(1,reachBytes * 0+1,RowΦ 1 reachBytes boolΨ),(1,0,intΦ),(1,reachBytes * 0+1,RowΦ 1 reachBytes intΦ),(1,reachBytes * (reachBytes * 1+1)+1,RowΦ 9 reachBytes blockΦ)])
  ⟨up_str,D.string (by kernel_rfl) (hf (9,0,1) (by simp)),up_int,D_int (by kernel_rfl) (hf (3,1,1) (by simp)),RowΦ.up up_boolΨ,D.row (e:=4) up_boolΨ (by kernel_rfl) (by kernel_rfl) (by decide) (Nat.le_of_ble_eq_true (by kernel_rfl)) (fun c hc=>D_boolΨ hc) (hf (33,2,1) (by simp)),up_int,D_int (by kernel_rfl) (hf (3,3,1) (by simp)),RowΦ.up up_int,D.row (e:=3) up_int (by kernel_rfl) (by kernel_rfl) (by decide) (Nat.le_of_ble_eq_true (by kernel_rfl)) (fun c hc=>D_int (by kernel_rfl) hc) (hf (34,4,1) (by simp)),RowΦ.up up_block,D.row (e:=50) up_block (by kernel_rfl) (by kernel_rfl) (by decide) (Nat.le_of_ble_eq_true (by kernel_rfl)) (fun c hc=>D_block hc) (hf (35,5,1) (by simp)),hl⟩
 refine D.mono this (by simp [segN,nFunc];omega) ?_
 rintro H acs _ ⟨_,_,rfl,⟨nm,rfl,hnm⟩,_,_,rfl,⟨pa,rfl,h1⟩,_,_,rfl,hr1,_,_,rfl,⟨rg,rfl,h2⟩,_,_,rfl,hr2,_,_,rfl,hr3,rfl⟩
 obtain ⟨A1,c1,l1,rfl,hs1,_,hn1,_⟩:=RowΦ_list (R:=fun _=>boolR) (K:=fun _=>True) hr1
 obtain ⟨A2,c2,l2,rfl,hs2,hk2,hn2,_⟩:=RowΦ_list (R:=fun _=>intR) (K:=fitI) hr2
 obtain ⟨A3,c3,l3,rfl,hs3,hk3,hn3,_⟩:=RowΦ_list (R:=blockR) hr3
 exact ⟨⟨nm,pa,l1.length,rg,l2,l3⟩,⟨A1,c1,A2,c2,A3,c3,l1,rfl,rfl,hs1,hs2,hs3⟩,⟨h1,h2,Nat.le_trans hn1 (by decide),Nat.le_trans hn2 (by decide),hk2,Nat.le_trans hn3 (by decide),hk3⟩,hnm⟩
def progN (h:Hp) (acs:List Value):Prop:=∃ p A1 c1 A2 c2,acs=progC p A1 c1 A2 c2∧SlAt h A1 6 p.funcs (funcRS h)∧SlAt h A2 4 p.globals (globR h)∧p.ok∧∀ f∈p.funcs,f.name.data.size≤140737488351232
theorem up_progN:UpΦ progN:=fun _ _ _ hm ⟨p,A1,c1,A2,c2,e,h1,h2,h3⟩=>⟨p,A1,c1,A2,c2,e,h1.mono hm fun _ _ h=>funcRS_mono hm h,h2.mono hm fun _ _ h=>globR_mono hm h,h3⟩
theorem D_progN {cs:List Value} (h:TW enc Tryd.prog W 25 cs):D G g0 W cs nProg progN:=by
 obtain ⟨hl,hf⟩:=h.fields (l:=[(22,0,1),(23,1,1),(3,2,1),(3,3,1)]) (n:=4) (by kernel_rfl) (by kernel_rfl)
 have:=SegD.d (g0:=g0) (G:=G) (off:=0) (cs:=cs) (W:=W) (l:=[(1,reachBytes * nFunc+1,RowΦ 6 reachBytes funcN),(1,reachBytes * (reachBytes * 1+1)+1,RowΦ 4 reachBytes globΦ),(1,0,intΦ),(1,0,intΦ)])
  ⟨RowΦ.up up_funcN,D.row (e:=37) up_funcN (by kernel_rfl) (by kernel_rfl) (by decide) (Nat.le_of_ble_eq_true (by kernel_rfl)) (fun c hc=>D_funcN hc) (hf (22,0,1) (by simp)),RowΦ.up up_glob,D.row (e:=111) up_glob (by kernel_rfl) (by kernel_rfl) (by decide) (Nat.le_of_ble_eq_true (by kernel_rfl)) (fun c hc=>D_glob hc) (hf (23,1,1) (by simp)),up_int,D_int (by kernel_rfl) (hf (3,2,1) (by simp)),up_int,D_int (by kernel_rfl) (hf (3,3,1) (by simp)),hl⟩
 refine D.mono this (by simp [segN,nProg]) ?_
 rintro H acs _ ⟨_,_,rfl,hr1,_,_,rfl,hr2,_,_,rfl,⟨d,rfl,h1⟩,_,_,rfl,⟨m,rfl,h2⟩,rfl⟩
 obtain ⟨A1,c1,l1,rfl,hs1,hk1,hn1,_⟩:=RowΦ_list (R:=funcRS) hr1
 obtain ⟨A2,c2,l2,rfl,hs2,hk2,hn2,_⟩:=RowΦ_list (R:=globR) hr2
 exact ⟨⟨l1,l2,d,m⟩,A1,c1,A2,c2,rfl,hs1,hs2,⟨Nat.le_trans hn1 (by decide),fun f hf=>(hk1 f hf).1,Nat.le_trans hn2 (by decide),hk2,h1,h2⟩,fun f hf=>(hk1 f hf).2⟩
end Go.Proofs.YtjhloakacicdiaaDoor
namespace Go.Proofs.YtjhloakacicdiaaDoor
open Go Go.AH Go.RowKit
theorem strs_of_tab {H:Type} {enc:TypeId × Value→H} {P:Program} {w:World} {base:Nat} {sp:Nat→Bool} {held:Bool} {fuel:Nat} {t e:TypeId} {n:Nat} {cs:List Value} {zs:List ByteArray} {p:List MemPlace}
 (ht:P.underlying t=some (.array n e)) (he:P.underlying e=some .string) (hce:P.cellsOf e=1) (hct:P.cellsOf t=n)
 (h:DataW.trod enc P w base sp held fuel t cs=some (.agg (zs.map fun z=>.lit (.string z.data.toList)),p)):cs=zs.map Value.string:=by
 cases fuel with
 | zero=>simp [DataW.trod] at h
 | succ fuel =>
  simp only [DataW.trod,ht,hce,hct,Nat.mul_one] at h
  split at h
  ·rename_i hl
   obtain ⟨xs,hm,hx⟩:=Option.map_eq_some_iff.1 h
   have hxs:xs.map (·.1)=zs.map fun z=>(DataW.lit (.string z.data.toList):DataW H):=by
    have:=congrArg Prod.fst hx
    simpa using this
   have hxl:xs.length=n:=by simpa using Lib.mapM_length hm
   have hzl:zs.length=n:=by
    have:=congrArg List.length hxs
    simp at this
    omega
   apply List.ext_getElem?
   intro i
   by_cases hi:i < n
   ·obtain ⟨b,hb,hf⟩:=Lib.mapM_at hm i i (by simp [hi])
    obtain ⟨z,hc,rfl,_⟩:=DataW.trod_string he hf
    have h1:cs[i]?=some (.string z):=by
     have:=congrArg (·[0]?) hc
     simpa [List.getElem?_take,List.getElem?_drop] using this
    have h2:(xs.map (·.1))[i]?=some (DataW.lit (.string z.data.toList):DataW H):=by simp [hb]
    rw [hxs] at h2
    simp only [List.getElem?_map,Option.map_eq_some_iff,DataW.lit.injEq,Lit.string.injEq] at h2
    obtain ⟨z',hz',e⟩:=h2
    have:z'=z:=by
     have h3:z'.data=z.data:=Array.ext' e
     cases z';cases z;exact congrArg ByteArray.mk h3
    rw [h1,List.getElem?_map,hz',this];rfl
   ·rw [List.getElem?_eq_none (by omega),List.getElem?_eq_none (by simp;omega)]
  ·cases h
def dLaid : List (String × DataW Unit) := [("math/bits.deBruijn32tab", Rows.laid_math_bits_deBruijn32tab), ("math/bits.deBruijn64tab", Rows.laid_math_bits_deBruijn64tab), ("internal/strconv.uint64pow10", Rows.laid_internal_strconv_uint64pow10), ("merlon/rtl.names", Rows.laid_merlon_rtl_names)]
theorem gPow : Tryd.prog.globalNamed "internal/strconv.uint64pow10" = some 1 := by kernel_rfl
theorem gNames : Tryd.prog.globalNamed "merlon/rtl.names" = some 0 := by kernel_rfl
theorem tPow:(Tryd.prog.globals[1]?).map (·.type)=some 177:=by kernel_rfl
theorem tNames:(Tryd.prog.globals[0]?).map (·.type)=some 82:=by kernel_rfl
theorem laid_pow:(Rows.laid_internal_strconv_uint64pow10:DataW Unit)=Lib.tabData .u64 Lib.pow10Tab:=by kernel_rfl
theorem laid_names:(Rows.laid_merlon_rtl_names:DataW Unit)=.agg (namesS.map fun z=>.lit (.string z.data.toList)):=by kernel_rfl
theorem cellsPow:Tryd.prog.cellsOf 177=20:=by kernel_rfl
theorem cellsNames:Tryd.prog.cellsOf 82=31:=by kernel_rfl
theorem cellsU64:Tryd.prog.cellsOf 90=1:=by kernel_rfl
theorem cellsStr:Tryd.prog.cellsOf 9=1:=by kernel_rfl
theorem rowPow:∃ z,((begin Tryd.prog (fun _ _=>0) default).world.heap[1]?).bind Obj.row?=some (z,177):=by
 have h:(((begin Tryd.prog (fun _ _=>0) default).world.heap[1]?).bind Obj.row?).map Prod.snd=some 177:=by kernel_rfl
 obtain ⟨⟨z,t⟩,h1,h2⟩:=Option.map_eq_some_iff.1 h
 simp only at h2
 subst h2
 exact ⟨z,h1⟩
theorem rowNames:∃ z,((begin Tryd.prog (fun _ _=>0) default).world.heap[0]?).bind Obj.row?=some (z,82):=by
 have h:(((begin Tryd.prog (fun _ _=>0) default).world.heap[0]?).bind Obj.row?).map Prod.snd=some 82:=by kernel_rfl
 obtain ⟨⟨z,t⟩,h1,h2⟩:=Option.map_eq_some_iff.1 h
 simp only at h2
 subst h2
 exact ⟨z,h1⟩
theorem gsizeD:Tryd.prog.globals.size=5:=by kernel_rfl
set_option maxRecDepth 100000 in
theorem d_tabs {W : World} (h : laidMetH Tryd.prog dLaid W) : W.var? Tryd.prog "internal/strconv.uint64pow10" = some (Lib.pow10Tab.map (Value.int .u64)).toArray ∧ W.var? Tryd.prog "merlon/rtl.names" = some (strV namesS).toArray := by
 rw [MakeChecks.laidMetH_plain _ _ _ (by kernel_rfl)] at h
 obtain ⟨ps,⟨_,_,_,_,_,_,_,_,_,_,⟨_,_,_,_,_,_,_,_,_,_,⟨g2,t2,c2,f2,p2,q2,hg2,ht2,hv2,hd2,⟨g3,t3,c3,f3,p3,q3,hg3,ht3,hv3,hd3,_,_⟩,_⟩,_⟩,_⟩,_⟩:=h
 obtain rfl:=Option.some.inj (gPow.symm.trans hg2)
 obtain rfl:=Option.some.inj (tPow.symm.trans ht2)
 obtain rfl:=Option.some.inj (gNames.symm.trans hg3)
 obtain rfl:=Option.some.inj (tNames.symm.trans ht3)
 rw [laid_pow] at hd2
 rw [laid_names] at hd3
 have e2:=Lib.cells_of_tab Tryd.underlying177 Tryd.underlying90 cellsU64 cellsPow hd2
 have e3:=strs_of_tab Tryd.underlying82 Tryd.underlying9 cellsStr cellsNames hd3
 refine ⟨?_,?_⟩
 ·rw [hv2,← e2]
 ·rw [hv3]
  unfold strV
  rw [← e3]
theorem d_start {W:World} (hsh:W.ShapedOpen Tryd.prog) (hL:laidMetH Tryd.prog dLaid W):∃ g0:Nat→Option Blk,(∀ i b,i < Tryd.prog.globals.size→g0 i=some b→(∃ (tail:Array Value) (fr:Nat × Nat),W.heap[i]?=some (.cells (b.cells++tail) b.elem fr))∧∀ v∈b.cells,bnd 0 v)∧∀ ws,GT (hpW Tryd.prog.globals.size g0 ws)∧NT (hpW Tryd.prog.globals.size g0 ws):=by
 obtain ⟨z1,h1⟩:=rowPow
 obtain ⟨z0,h0⟩:=rowNames
 obtain ⟨c1,hh1,_,_⟩:=hsh.1 _ z1 _ (by rw [gsizeD];decide) h1
 obtain ⟨c0,hh0,_,_⟩:=hsh.1 _ z0 _ (by rw [gsizeD];decide) h0
 obtain ⟨hp,hn⟩:=d_tabs hL
 have e1:c1=(Lib.pow10Tab.map (Value.int .u64)).toArray:=by
  unfold World.var? at hp
  rw [gPow] at hp
  simpa only [Option.bind_some,hh1,Option.some.injEq] using hp
 have e0:c0=(strV namesS).toArray:=by
  unfold World.var? at hn
  rw [gNames] at hn
  simpa only [Option.bind_some,hh0,Option.some.injEq] using hn
 refine ⟨fun i=>if i=0 then some ⟨⟨strV namesS⟩,82⟩ else if i=1 then some ⟨⟨Lib.pow10Tab.map (Value.int .u64)⟩,177⟩ else none,fun i b hi hb=>?_,fun ws=>⟨⟨177,?_⟩,⟨82,?_⟩⟩⟩
 ·dsimp only at hb
  by_cases q0:i=0
  ·rw [if_pos q0] at hb
   injection hb with hb
   subst hb
   refine ⟨⟨#[],_,by rw [q0,hh0,e0,Array.append_empty]⟩,fun v hv=>?_⟩
   have hv:v∈strV namesS:=by simpa using hv
   obtain ⟨s,_,rfl⟩:=List.mem_map.1 hv
   simp
  ·rw [if_neg q0] at hb
   by_cases q1:i=1
   ·rw [if_pos q1] at hb
    injection hb with hb
    subst hb
    refine ⟨⟨#[],_,by rw [q1,hh1,e1,Array.append_empty]⟩,fun v hv=>?_⟩
    have hv:v∈Lib.pow10Tab.map (Value.int .u64):=by simpa using hv
    obtain ⟨s,_,rfl⟩:=List.mem_map.1 hv
    simp
   ·rw [if_neg q1] at hb;cases hb
 ·simp [hpW,gsizeD]
 ·simp [hpW,gsizeD]
theorem d_door (os:Os) (args:Array Value):laidMetH Tryd.prog dLaid ((World.doorLaid Tryd.prog 4000 os).forCall (fun _ _=>0) ⟨#[],args,[]⟩).memory :=
 laidMetH_of_parts3 (fuel:=8) (laidMet_of_run' 8 (by kernel_rfl) (by kernel_rfl)) (by kernel_rfl) (by kernel_rfl)
end Go.Proofs.YtjhloakacicdiaaDoor
