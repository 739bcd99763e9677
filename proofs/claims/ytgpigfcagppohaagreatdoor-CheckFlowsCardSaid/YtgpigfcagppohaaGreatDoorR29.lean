/-
  What the functions that the law reaches compute,told by plain data;it holds of programs that pass the check of right form and are light.
-/
import Derived.Test.YtgpigfcagppohaaGreatDoorR28
set_option linter.unusedVariables false
set_option linter.unusedSimpArgs false
namespace Go.Proofs.YtgpigfcagppohaaGreatDoor
open Go.AH
attribute [local irreducible] W RS WR
def keptB (e:TypeId):Bool:=!(Nat.beq e 95 || Nat.beq e 100 || Nat.beq e 124 || Nat.beq e 130)
def KeptE (h h':Hp):Prop:=∀ i c,h.m i=some c→keptB c.elem=true→h'.m i=some c
theorem RowAt.upE {h h':Hp} {lo:Nat} {e:TypeId} {A:Option Addr} {cs:List Value} (r:RowAt h lo e A cs) (hu:KeptE h h') (he:keptB e=true):RowAt h' 0 e A cs:=by
 rcases r with ⟨h1,h2⟩|⟨b,h1,h2,h3⟩
 ·exact .inl ⟨h1,h2⟩
 ·exact .inr ⟨b,h1,Nat.zero_le _,hu _ _ h3 he⟩
theorem ExprAt.upE {h h':Hp} {lo:Nat} (hu:KeptE h h'):∀ {b:Nat} {e:ExprS},ExprAt h lo b e→ExprAt h' 0 b e:=by
 intro b e he
 induction he with
 | mk h0 hm hd hk hlen hr ih=>exact .mk (Nat.zero_le _) (hu _ _ hm rfl) (hd.upE hu rfl) (hk.upE hu rfl) hlen ih
theorem StmtAt.upE {h h':Hp} {lo:Nat} (hu:KeptE h h'):∀ {b:Nat} {e:StmtS},StmtAt h lo b e→StmtAt h' 0 b e:=by
 intro b e he
 induction he with
 | mk h0 hm hd hE hk hlen hr ih =>
  refine .mk (Nat.zero_le _) (hu _ _ hm rfl) (hd.upE hu rfl) ?_ (hk.upE hu rfl) hlen ih
  rename_i e _ _ _ _ _ _ _
  cases e with
  | none=>exact hE
  | some e=>obtain ⟨b,h1,h2⟩:=hE;exact ⟨b,h1,h2.upE hu⟩
def FunAt (h:Hp) (c:List Value) (f:FuncDS):Prop:=∃ A k b d,(d.ty=f.ret∧d.name=f.name∧d.pos=f.pos∧d.ty.dims=[]∧(f.params=[]→A=none∧k=0))∧c=funcDC d A f.params.length k (ptrC b)∧StmtAt h 0 b f.body
def GlobAt (h:Hp) (c:List Value) (d:DeclS):Prop:=∃ A k,c=declC d A k++[.pointer none]∧RowAt h 0 3 A (dimsC d.ty.dims)
def rA {α:Type} (b:Nat) (l:List α):Option Addr:=if l=[] then none else some ⟨b,0,none⟩
def rK {α:Type} (sz:Nat) (l:List α):Nat:=if l=[] then 0 else capOf sz
def unitC (gb:Nat) (gs:List (List Value)) (fb:Nat) (fs:List (List Value)):List Value:=[.slice none 0 0,.slice (rA gb gs) gs.length (rK 12 gs),.slice (rA fb fs) fs.length (rK 13 fs)]
structure UnitAt (h:Hp) (ub:Nat) (u:UnitS) (gb:Nat) (gs:List (List Value)) (fb:Nat) (fs:List (List Value)):Prop where
 m:h.m ub=some ⟨⟨unitC gb gs fb fs⟩,100⟩
 gl:gs.length=u.globals.length
 fl:fs.length=u.funcs.length
 g:gs≠[]→h.m gb=some ⟨⟨gs.flatten⟩,124⟩
 f:fs≠[]→h.m fb=some ⟨⟨fs.flatten⟩,130⟩
 gs12:∀ c∈gs,c.length=12
 fs13:∀ c∈fs,c.length=13
 has:∀ (i:Nat) (c:List Value) (f:FuncDS),fs[i]?=some c→u.funcs[i]?=some f→FunAt h c f
 hasG:∀ (i:Nat) (c:List Value) (d:DeclS),gs[i]?=some c→u.globals[i]?=some d→GlobAt h c d
 uw:rwM≤ub
 gw:gs≠[]→rwM≤gb
 fw:fs≠[]→rwM≤fb
theorem UnitAt.kept {h h':Hp} {ub:Nat} {u:UnitS} {gb:Nat} {gs:List (List Value)} {fb:Nat} {fs:List (List Value)} (w:UnitAt h ub u gb gs fb fs) (hu:∀ i c,h.m i=some c→c.elem≠95→h'.m i=some c):UnitAt h' ub u gb gs fb fs :=
 ⟨hu _ _ w.m (fun hc=>absurd (show (100:Nat)=95 from hc) (by decide)),w.gl,w.fl,fun e=>hu _ _ (w.g e) (fun hc=>absurd (show (124:Nat)=95 from hc) (by decide)),fun e=>hu _ _ (w.f e) (fun hc=>absurd (show (130:Nat)=95 from hc) (by decide)),w.gs12,w.fs13,fun i c f h1 h2=>by
  obtain ⟨A,k,b,d,hnm,h3,h4⟩:=w.has i c f h1 h2
  exact ⟨A,k,b,d,hnm,h3,h4.upE fun i c hc hk=>hu i c hc fun e=>by rw [e] at hk;exact absurd hk (by decide)⟩,fun i c d h1 h2=>by
  obtain ⟨A,k,h3,h4⟩:=w.hasG i c d h1 h2
  exact ⟨A,k,h3,h4.upE (fun i c hc hk=>hu i c hc fun e=>by rw [e] at hk;exact absurd hk (by decide)) rfl⟩,w.uw,w.gw,w.fw⟩
structure NowU (L:List TokS) (tb cap pb:Nat) (h0 B:Hp) (st:PS) (ub:Nat) (u:UnitS) (gb:Nat) (gs:List (List Value)) (fb:Nat) (fs:List (List Value)):Prop where
 p:ParAt L tb cap pb B st
 d:∀ i b,B.m i=some b→i < B.n
 u:UnitAt B ub u gb gs fb fs
 k:KeptE h0 B
theorem KeptE.trans {a b c:Hp} (h1:KeptE a b) (h2:KeptE b c):KeptE a c:=fun i x hx hk=>h2 i x (h1 i x hx hk) hk
section
variable {L:List TokS} {tb cap pb:Nat} {h0 B B1 H1:Hp} {st st':PS} {ub:Nat} {u:UnitS} {gb:Nat} {gs:List (List Value)} {fb:Nat} {fs:List (List Value)}
theorem NowU.ends {P:Program} {π:Nat→Nat} {k:Nat} {l:List (Nat × Option Blk)} (w:NowU L tb cap pb h0 B st ub u gb gs fb fs) (a:Absb (P:=P) ⟨B,π,k,l⟩ B1):NowU L tb cap pb h0 B1 st ub u gb gs fb fs :=
 ⟨w.p.absd w.d a,a.dom,w.u.kept fun i c hc _=>a.up i c hc,w.k.trans fun i c hc _=>a.up i c hc⟩
theorem NowU.step0 (w:NowU L tb cap pb h0 B st ub u gb gs fb fs) (p':ParAt L tb cap pb H1 st') (d:∀ i c,H1.m i=some c→i < H1.n) (o':OffP pb B H1):NowU L tb cap pb h0 H1 st' ub u gb gs fb fs :=
 ⟨p',d,w.u.kept fun i c hc he=>o'.keep hc (w.d _ _ hc) fun e=>by subst e;rw [w.p.par] at hc;cases hc;exact he rfl,w.k.trans fun i c hc hk=>o'.keep hc (w.d _ _ hc) fun e=>by subst e;rw [w.p.par] at hc;cases hc;exact absurd (show keptB 95=true from hk) (by decide)⟩
theorem NowU.keptO (w:NowU L tb cap pb h0 B st ub u gb gs fb fs) (o':OffP pb B H1):KeptE B H1:=fun i c hc hk=>o'.keep hc (w.d _ _ hc) fun e=>by subst e;rw [w.p.par] at hc;cases hc;exact absurd (show keptB 95=true from hk) (by decide)
theorem NowU.step {P:Program} {π:Nat→Nat} {k:Nat} {l:List (Nat × Option Blk)} (w:NowU L tb cap pb h0 B st ub u gb gs fb fs) (a:Absb (P:=P) ⟨B,π,k,l⟩ B1) (p':ParAt L tb cap pb H1 st') (d:∀ i c,H1.m i=some c→i < H1.n) (o':OffP pb B1 H1):NowU L tb cap pb h0 H1 st' ub u gb gs fb fs :=
 (w.ends a).step0 p' d o'
theorem ne_elem {H:Hp} {i j:Nat} {c1 c2:Blk} (h1:H.m i=some c1) (h2:H.m j=some c2) (he:c1.elem≠c2.elem):i≠j:=fun e=>by subst e;rw [h1] at h2;cases h2;exact he rfl
theorem ne_elemB {H:Hp} {i j:Nat} {c1 c2:Blk} (h1:H.m i=some c1) (h2:H.m j=some c2) (he:Nat.beq c1.elem c2.elem=false):i≠j:=ne_elem h1 h2 fun e=>by rw [e] at he;simp at he
theorem NowU.pushF {H:Hp} {fb':Nat} {c:List Value} {f:FuncDS} (w:NowU L tb cap pb h0 H st ub u gb gs fb fs) (up:∀ i c,i≠ub→(fs≠[]→i≠fb)→H.m i=some c→B.m i=some c) (hd:∀ i b,B.m i=some b→i < B.n) (hm:B.m ub=some ⟨⟨unitC gb gs fb' (fs++[c])⟩,100⟩) (hf:B.m fb'=some ⟨⟨(fs++[c]).flatten⟩,130⟩) (hc:FunAt H c f) (hcl:c.length=13) (hfw:rwM≤fb') :
 NowU L tb cap pb h0 B st ub ⟨u.globals,u.funcs++[f]⟩ gb gs fb' (fs++[c]):=by
 have up2:∀ i c,H.m i=some c→c.elem≠100→c.elem≠130→B.m i=some c:=fun i c hi h1 h2=>up i c (ne_elem hi w.u.m h1) (fun e=>ne_elem hi (w.u.f e) h2) hi
 have ke:KeptE H B:=fun i c hi hk=>up2 i c hi (fun e=>by rw [e] at hk;exact absurd hk (by decide)) (fun e=>by rw [e] at hk;exact absurd hk (by decide))
 refine ⟨⟨up2 _ _ w.p.tok (fun e=>absurd (show (102:Nat)=100 from e) (by decide)) (fun e=>absurd (show (102:Nat)=130 from e) (by decide)),up2 _ _ w.p.par (fun e=>absurd (show (95:Nat)=100 from e) (by decide)) (fun e=>absurd (show (95:Nat)=130 from e) (by decide)),w.p.fits,w.p.rw,w.p.ne⟩,hd,⟨hm,w.u.gl,by simp [w.u.fl],fun e=>up2 _ _ (w.u.g e) (fun e=>absurd (show (124:Nat)=100 from e) (by decide)) (fun e=>absurd (show (124:Nat)=130 from e) (by decide)),fun _=>hf,w.u.gs12,?_,?_,fun i x d hx hd=>by
  obtain ⟨A,k,h3,h4⟩:=w.u.hasG i x d hx hd
  exact ⟨A,k,h3,h4.upE ke rfl⟩,w.u.uw,w.u.gw,fun _=>hfw⟩,w.k.trans ke⟩
 ·intro x hx
  rcases List.mem_append.1 hx with e|e
  ·exact w.u.fs13 x e
  ·rw [List.mem_singleton] at e;rw [e];exact hcl
 ·intro i x f' hx hf'
  dsimp only at hf'
  by_cases hi:i < fs.length
  ·rw [List.getElem?_append_left hi] at hx
   rw [List.getElem?_append_left (by rw [← w.u.fl];exact hi)] at hf'
   obtain ⟨A,k,b,d,hnm,h3,h4⟩:=w.u.has i x f' hx hf'
   exact ⟨A,k,b,d,hnm,h3,h4.upE ke⟩
  ·have hlt:=(List.getElem?_eq_some_iff.1 hx).1
   have hi:i=fs.length:=by simp at hlt;omega
   subst hi
   rw [List.getElem?_append_right (Nat.le_refl _)] at hx
   rw [List.getElem?_append_right (by rw [w.u.fl];exact Nat.le_refl _)] at hf'
   simp [w.u.fl] at hx hf'
   subst hx;subst hf'
   obtain ⟨A,k,b,d,hnm,h3,h4⟩:=hc
   exact ⟨A,k,b,d,hnm,h3,h4.upE ke⟩
theorem NowU.pushG {H:Hp} {gb':Nat} {c:List Value} {d:DeclS} (w:NowU L tb cap pb h0 H st ub u gb gs fb fs) (up:∀ i c,i≠ub→(gs≠[]→i≠gb)→H.m i=some c→B.m i=some c) (hd:∀ i b,B.m i=some b→i < B.n) (hm:B.m ub=some ⟨⟨unitC gb' (gs++[c]) fb fs⟩,100⟩) (hf:B.m gb'=some ⟨⟨(gs++[c]).flatten⟩,124⟩) (hgl:GlobAt H c d) (hcl:c.length=12) (hfw:rwM≤gb') :
 NowU L tb cap pb h0 B st ub ⟨u.globals++[d],u.funcs⟩ gb' (gs++[c]) fb fs:=by
 have up2:∀ i c,H.m i=some c→c.elem≠100→c.elem≠124→B.m i=some c:=fun i c hi h1 h2=>up i c (ne_elem hi w.u.m h1) (fun e=>ne_elem hi (w.u.g e) h2) hi
 have ke:KeptE H B:=fun i c hi hk=>up2 i c hi (fun e=>by rw [e] at hk;exact absurd hk (by decide)) (fun e=>by rw [e] at hk;exact absurd hk (by decide))
 refine ⟨⟨up2 _ _ w.p.tok (fun e=>absurd (show (102:Nat)=100 from e) (by decide)) (fun e=>absurd (show (102:Nat)=124 from e) (by decide)),up2 _ _ w.p.par (fun e=>absurd (show (95:Nat)=100 from e) (by decide)) (fun e=>absurd (show (95:Nat)=124 from e) (by decide)),w.p.fits,w.p.rw,w.p.ne⟩,hd,⟨hm,by simp [w.u.gl],w.u.fl,fun _=>hf,fun e=>up2 _ _ (w.u.f e) (fun e=>absurd (show (130:Nat)=100 from e) (by decide)) (fun e=>absurd (show (130:Nat)=124 from e) (by decide)),?_,w.u.fs13,?_,?_,w.u.uw,fun _=>hfw,w.u.fw⟩,w.k.trans ke⟩
 ·intro x hx
  rcases List.mem_append.1 hx with e|e
  ·exact w.u.gs12 x e
  ·rw [List.mem_singleton] at e;rw [e];exact hcl
 ·intro i x f' hx hf'
  obtain ⟨A,k,b,d,hnm,h3,h4⟩:=w.u.has i x f' hx hf'
  exact ⟨A,k,b,d,hnm,h3,h4.upE ke⟩
 ·intro i x d' hx hd'
  dsimp only at hd'
  by_cases hi:i < gs.length
  ·rw [List.getElem?_append_left hi] at hx
   rw [List.getElem?_append_left (by rw [← w.u.gl];exact hi)] at hd'
   obtain ⟨A,k,h3,h4⟩:=w.u.hasG i x d' hx hd'
   exact ⟨A,k,h3,h4.upE ke rfl⟩
  ·have hlt:=(List.getElem?_eq_some_iff.1 hx).1
   have hi:i=gs.length:=by simp at hlt;omega
   subst hi
   rw [List.getElem?_append_right (Nat.le_refl _)] at hx
   rw [List.getElem?_append_right (by rw [w.u.gl];exact Nat.le_refl _)] at hd'
   simp [w.u.gl] at hx hd'
   subst hx;subst hd'
   obtain ⟨A,k,h3,h4⟩:=hgl
   exact ⟨A,k,h3,h4.upE ke rfl⟩
theorem outer_iff {T:Nat→TokS} {n:Nat} {u u':UnitS} {st t:PS} (h:outerS T n u st=some (u',t)):(typedT (st.tok T)=false∧u'=u∧t=st.fail T 11)∨(typedT (st.tok T)=true∧st.is T bStruct=false∧∃ s u1 d u2,specS T st=some (s,u1)∧restS T n s u1=some (d,u2) ∧
 ((d.ty.dims = [] ∧ u2.is T (b1 40) = true ∧ ∃ f u3, functionS T n d u2 = some (f, u3) ∧ u' = ⟨u.globals, u.funcs ++ [f]⟩ ∧ t = if 60 < u.funcs.length + 1 then u3.fail0 4 d.pos else u3) ∨
  (¬ (d.ty.dims=[]∧u2.is T (b1 40)=true)∧∃ u3 u4,u2.take T (b1 61)=some (false,u3)∧u3.want T (b1 59)=some u4∧u'=⟨u.globals++[d],u.funcs⟩∧t=if 60 < u.globals.length+1 then u4.fail0 4 d.pos else u4))):=by
 unfold outerS at h
 cases ht:typedT (st.tok T) with
 | false =>
  rw [ht,if_pos rfl] at h
  simp only [Option.some.injEq,Prod.mk.injEq] at h
  exact .inl ⟨rfl,h.1.symm,h.2.symm⟩
 | true =>
  rw [ht,if_neg (by decide)] at h
  split at h
  ·cases h
  rename_i hs
  obtain ⟨⟨s,u1⟩,h1,h2⟩:=bind_some' h
  obtain ⟨⟨d,u2⟩,h3,h4⟩:=bind_some' h2
  dsimp only at h4
  refine .inr ⟨rfl,by simpa using hs,s,u1,d,u2,h1,h3,?_⟩
  split at h4
  ·rename_i hc
   obtain ⟨⟨f,u3⟩,h5,h6⟩:=bind_some' h4
   simp only [Option.some.injEq,Prod.mk.injEq] at h6
   exact .inl ⟨hc.1,hc.2,f,u3,h5,h6.1.symm,h6.2.symm⟩
  ·rename_i hc
   obtain ⟨⟨b,u3⟩,h5,h6⟩:=bind_some' h4
   cases b with
   | true=>cases h6
   | false =>
    simp only [Bool.false_eq_true,if_false] at h6
    obtain ⟨u4,h7,h8⟩:=bind_some' h6
    simp only [Option.some.injEq,Prod.mk.injEq] at h8
    exact .inr ⟨hc,u3,u4,h5,h7,h8.1.symm,h8.2.symm⟩
end
section
variable {L:List TokS} {tb cap pb:Nat} {h:Hp} {st:PS} {ub:Nat} {u u':UnitS} {gb:Nat} {gs:List (List Value)} {fb:Nat} {fs:List (List Value)}
set_option maxHeartbeats 4000000 in
theorem outer_ok (hL:ToksOK L) {n:Nat} {t:PS} (hs:outerS (tokN L) n u st=some (u',t)) (w:NowU L tb cap pb h h st ub u gb gs fb fs) (hg:gs.length≤60) (hf:fs.length≤60):EX Tryz.prog 32 [ptrC pb,ptrC ub] h (fun v h'=>v=.tuple ⟨[]⟩∧∃ gb' gs' fb' fs',NowU L tb cap pb h h' t ub u' gb' gs' fb' fs'):=by
 refine EX.intro (fn:=Tryz.f32) (c:=(Tryz.f32.body.getD .skip)) Tryz.func32 (by kernel_rfl) Tryz.ntmps32 (by kernel_rfl) fun π s0=>?_
 conv=>arg 2;whnf
 rcases outer_iff hs with ⟨ht,rfl,rfl⟩|⟨ht,his,s,u1,d,u2,e1,e2,hr⟩
 ·repeat (first|refine Y5x ?_|((with_reducible apply (RS.callEx (g0:=59)));(iterate 3 exact rfl);intro B2 hB2;refine ⟨_,fail_ex hL (w.p.absd w.d hB2) 11,?_⟩;rintro v H2 π2 ⟨rfl,p',o'⟩ sp2 hle2;have w:=w.step hB2 p' sp2.dom o')|refine Y25 ?_|refine Y0 ?_|refine Y13 ?_|refine Y1 ?_|refine Y5 ?_)
  exact endsK_ret _ .nil fun B' a=>⟨rfl,gb,gs,fb,fs,w.ends a⟩
 ·((with_reducible apply W.seq);repeat (fail))
  ((with_reducible apply W.seq);repeat (first|refine Y5x ?_|refine Y25 ?_|refine Y0 ?_|refine Y1 ?_|refine Y1h ?_|refine Y3 ?_))
  ((with_reducible apply W.seq);repeat (fail))
  ((with_reducible apply W.seq);repeat (first|refine Y4a ?_|refine Y11 ?_|refine Yc ?_|refine Yk ?_|refine Y0 ?_|refine Y1 ?_|refine Y1h ?_|refine Y3 ?_))
  ((with_reducible apply W.seq);repeat (first|((with_reducible apply (RS.callEx (g0:=62)));(iterate 3 exact rfl);intro B3 hB3;refine ⟨_,spec_ex hL (w.p.absd w.d hB3) e1,?_⟩;rintro v H3 π3 ⟨rfl,p3,o3⟩ sp3 hle3;have w:=w.step hB3 p3 sp3.dom o3)|refine Y11 ?_|refine Y2 ?_|refine Y9 ?_|refine Y0 ?_|refine Y1 ?_|refine Ym ?_))
  ((with_reducible apply W.seq);repeat (first|((with_reducible apply (RS.callEx (g0:=63)));(iterate 3 exact rfl);intro B4 hB4;refine ⟨_,rest_ex hL (w.p.absd w.d hB4) e2,?_⟩;rintro v H4 π4 ⟨D,dk,rfl,hz,hr4,p4,o4⟩ sp4 hle4;have w:=w.step hB4 p4 sp4.dom o4)|refine Y11 ?_|refine Yg ?_|refine Y2 ?_|refine Y9 ?_|refine Y0 ?_|refine Y1 ?_|refine Ym ?_))
  refine W.absorbX fun G π0 a0=>?_
  have hdb:G.m (π4 0)=some ⟨⟨declC d D dk⟩,116⟩:=a0.loc 0 (Nat.lt_succ_self 0)
  replace w:=w.ends a0
  have hr4:RowAt G 0 3 D (dimsC d.ty.dims):=hr4.up (fun i _ c hc=>a0.up i c hc) (Nat.zero_le _)
  generalize π4 0=db at *
  obtain ⟨⟨s',k',dims⟩,nm,dp⟩:=d
  dsimp only at hz hr hr4
  rcases hr with ⟨rfl,hp,f,u3,h5,rfl,rfl⟩|⟨hnp,u3,u4,h5,h6,rfl,rfl⟩
  ·obtain ⟨rfl,rfl⟩:=hz rfl
   have his:=hp
   ((with_reducible apply W.seq);repeat (fail))
   ((with_reducible apply W.seq);repeat (first|refine Y4a ?_|refine Y51 ?_|refine Y4l ?_|refine Yd ?_|refine Yo ?_|refine Y0 ?_|refine Y1 ?_|refine Y5 ?_|refine Ym ?_))
   have hdp:db≠pb:=ne_elemB hdb w.p.par rfl
   have hup:ub≠pb:=ne_elemB w.u.m w.p.par rfl
   have hun:=w.d _ _ w.u.m
   with_reducible apply W.seq
   refine W.joinNT (X:=Nat × List Value) (fun _=>[(0,ptrC pb),(1,ptrC ub),(5,ptrC db)]) (fun x B=>NowU L tb cap pb h B u3 ub ⟨u.globals,u.funcs++[f]⟩ gb gs x.1 (fs++[x.2])∧B.m db=some ⟨⟨declC ⟨⟨s',k',[]⟩,nm,dp⟩ none 0⟩,116⟩) ?_ ?_
   ·by_cases hle:fs=[]
    ·subst hle
     have hum:G.m ub=some ⟨⟨[.slice none 0 0,.slice (rA gb gs) gs.length (rK 12 gs),.slice none 0 0]⟩,100⟩:=w.u.m
     repeat (first|refine Y3z ?_|refine Y4f ?_|((with_reducible apply (RS.callYE (g0:=64) (fun id=>id == pb)));(iterate 3 exact rfl);intro B4 he4 hB4;refine ⟨_,function_ok hL rfl h5 (w.p.absd w.d hB4),(fun v H' hq i hi hei=>by obtain ⟨A,c,b,d,_,_,_,_,o⟩:=hq;exact o.2 i (Nat.lt_of_lt_of_le hi hB4.le) (by simpa using hei)),?_⟩;rintro v H5 k5 l5 ⟨A,c,b,d2,hnm2,rfl,hs5,p5,o5⟩ s5 hle5 hm5 hden5 hwf5 hk5;have hdb:=o5.keep (hB4.up _ _ hdb) (hB4.dom _ _ (hB4.up _ _ hdb)) hdp;have hum:=o5.keep (hB4.up _ _ hum) (hB4.dom _ _ (hB4.up _ _ hum)) hup;have w:=w.step hB4 p5 s5.dom o5)|refine Yi ?_|refine Y2m ?_|((with_reducible apply (RS.storeB (cs':=[.slice none 0 0,.slice (rA gb gs) gs.length (rK 12 gs),.slice (some ⟨π0 (k5+1),0,none⟩) 1 (capOf 13)])));(iterate 3 exact rfl);exact ((if_pos hun).trans hum);exact hun;exact w.u.uw;exact Nat.le_of_ble_eq_true rfl;iterate 3 exact rfl)|((with_reducible apply (RS.nilPC mixed [(0,1),(0,2),(0,3),(0,4),(4,5),(3,5),(2,5),(1,5),(0,5),(5,6),(4,6),(3,6),(2,6),(1,6),(0,6),(4,7),(3,7),(2,7),(1,7),(0,7),(4,8),(3,8),(2,8),(1,8),(0,8),(0,9)]));kernel_rfl;(repeat (refine ⟨fun x y hx hy=>(by obtain rfl:=Option.some.inj hx;obtain rfl:=Option.some.inj hy;exact pairR_free rfl rfl rfl rfl rfl rfl rfl (Nat.zero_le _) rfl),?_⟩));exact trivial;exact sideOK_all (j:=pb) (b:=ub) (Ne.symm hup) (by repeat' (first|exact trivial|exact .inl rfl|exact .inr rfl|apply And.intro));exact rfl)|refine Yf ?_|refine Y1 ?_)
     have hlk:∀ (x y:Option Blk) (j:Nat),j < k5→lookB ((k5+1,x)::(k5,y)::l5) j=lookB l5 j:=fun x y j hj=>by rw [look_cons,look_cons,if_neg (Nat.ne_of_gt (Nat.lt_succ_of_lt hj)),if_neg (Nat.ne_of_gt hj)]
     refine joinN_n rfl fun B' a=>?_
     have up:=gen_up hden5 a rfl (Nat.le_add_right k5 2) (hlk _ _) (fun i=>i=ub) (fun i hi hne=>by
      show (if i=ub then _ else if i < G.n then H5.m i else none)=_
      rw [if_neg hne];exact if_pos hi)
     refine ⟨(π0 (k5+1),funcDC d2 A f.params.length c (ptrC b)),?_,w.pushF (fun i c h1 h2 hc=>up i c h1 hc) a.dom ((a.up _ _ (if_pos rfl)).trans ?_) ((a.loc (k5+1) (Nat.lt_succ_self _)).trans ((look_cons _ _ _).trans ((if_pos rfl).trans ?_))) ⟨A,c,b,d2,hnm2,rfl,hs5.upE fun _ _ h _=>h⟩ rfl (Nat.le_trans a.rw (a.lo (k5+1) (Nat.lt_succ_self _))),up _ _ (ne_elemB hdb hum rfl) hdb⟩
     ·(repeat' (first|exact trivial|exact rfl|apply And.intro));done
     ·unfold unitC rA rK
      simp
     ·simp
      try rfl
    ·have hum:G.m ub=some ⟨⟨[.slice none 0 0,.slice (rA gb gs) gs.length (rK 12 gs),.slice (some ⟨fb,0,none⟩) fs.length (capOf 13)]⟩,100⟩:=by
      have:=w.u.m
      unfold unitC at this
      rw [show rA fb fs=some ⟨fb,0,none⟩ from if_neg hle,show rK 13 fs=capOf 13 from if_neg hle] at this
      exact this
     have hfn:=w.d _ _ (w.u.f hle)
     have huf:ub≠fb:=ne_elemB w.u.m (w.u.f hle) rfl
     repeat (first|refine Y3z ?_|refine Y4f ?_|((with_reducible apply (RS.callYE (g0:=64) (fun id=>id == pb)));(iterate 3 exact rfl);intro B4 he4 hB4;refine ⟨_,function_ok hL rfl h5 (w.p.absd w.d hB4),(fun v H' hq i hi hei=>by obtain ⟨A,c,b,d,_,_,_,_,o⟩:=hq;exact o.2 i (Nat.lt_of_lt_of_le hi hB4.le) (by simpa using hei)),?_⟩;rintro v H5 k5 l5 ⟨A,c,b,d2,hnm2,rfl,hs5,p5,o5⟩ s5 hle5 hm5 hden5 hwf5 hk5;have hdb:=o5.keep (hB4.up _ _ hdb) (hB4.dom _ _ (hB4.up _ _ hdb)) hdp;have hum:=o5.keep (hB4.up _ _ hum) (hB4.dom _ _ (hB4.up _ _ hum)) hup;have w:=w.step hB4 p5 s5.dom o5)|refine Yi ?_|((with_reducible apply (RS.growXL (j:=fb) (i:=k5)));(iterate 6 exact rfl);exact ((if_pos hfn).trans (w.u.f hle));exact hfn;exact w.u.fw hle;exact flat_len w.u.fs13;exact blt_iff.2 (Nat.lt_succ_self k5);exact ((look_cons _ _ _).trans (if_pos rfl));exact Nat.le_of_ble_eq_true rfl;exact rfl;exact Nat.le_trans (Nat.mul_le_mul_right _ (show fs.length+1≤61 from by omega)) (Nat.le_of_ble_eq_true rfl);exact Nat.le_trans (show fs.length+1≤61 from by omega) (Nat.le_of_ble_eq_true rfl))|((with_reducible apply (RS.storeB (cs':=[.slice none 0 0,.slice (rA gb gs) gs.length (rK 12 gs),.slice (some ⟨π0 (k5+1),0,none⟩) (fs.length+1) (capOf 13)])));(iterate 3 exact rfl);exact ((if_neg huf).trans ((if_pos hun).trans hum));exact hun;exact w.u.uw;exact Nat.le_of_ble_eq_true rfl;iterate 3 exact rfl)|((with_reducible apply (RS.nilPC mixed [(0,1),(0,2),(0,3),(0,4),(4,5),(3,5),(2,5),(1,5),(0,5),(5,6),(4,6),(3,6),(2,6),(1,6),(0,6),(4,7),(3,7),(2,7),(1,7),(0,7),(4,8),(3,8),(2,8),(1,8),(0,8),(0,9)]));kernel_rfl;(repeat (refine ⟨fun x y hx hy=>(by obtain rfl:=Option.some.inj hx;obtain rfl:=Option.some.inj hy;exact pairR_free rfl rfl rfl rfl rfl rfl rfl (Nat.zero_le _) rfl),?_⟩));exact trivial;exact sideTwo_all (i:=pb) (j:=fb) (b:=ub) (Ne.symm hup) (Ne.symm huf) (by repeat' (first|exact trivial|exact .inl rfl|exact .inr rfl|exact .inr (.inl rfl)|exact .inr (.inr rfl)|apply And.intro));exact rfl)|refine Yf ?_|refine Y1 ?_)
     have hlk:∀ (x y:Option Blk) (j:Nat),j < k5→lookB ((k5+1,x)::(k5,y)::l5) j=lookB l5 j:=fun x y j hj=>by rw [look_cons,look_cons,if_neg (Nat.ne_of_gt (Nat.lt_succ_of_lt hj)),if_neg (Nat.ne_of_gt hj)]
     refine joinN_n rfl fun B' a=>?_
     have up:=gen_up hden5 a rfl (Nat.le_add_right k5 2) (hlk _ _) (fun i=>i=ub∨i=fb) (fun i hi hne=>by
      show (if i=ub then _ else if i=fb then none else if i < G.n then H5.m i else none)=_
      rw [if_neg (fun e=>hne (.inl e)),if_neg (fun e=>hne (.inr e))];exact if_pos hi)
     refine ⟨(π0 (k5+1),funcDC d2 A f.params.length c (ptrC b)),?_,w.pushF (fun i c h1 h2 hc=>up i c (fun e=>by rcases e with e|e;exact h1 e;exact h2 hle e) hc) a.dom ((a.up _ _ (if_pos rfl)).trans ?_) ((a.loc (k5+1) (Nat.lt_succ_self _)).trans ((look_cons _ _ _).trans ((if_pos rfl).trans ?_))) ⟨A,c,b,d2,hnm2,rfl,hs5.upE fun _ _ h _=>h⟩ rfl (Nat.le_trans a.rw (a.lo (k5+1) (Nat.lt_succ_self _))),up _ _ (fun e=>by rcases e with e|e;exact ne_elemB hdb hum rfl e;exact ne_elemB hdb (w.u.f hle) rfl e) hdb⟩
     ·(repeat' (first|exact trivial|exact rfl|apply And.intro));done
     ·unfold unitC rA rK
      simp
     ·simp
      try rfl
   ·clear hdb w
    rintro ⟨fb',c⟩ B9 π9 s9 ⟨w,hdb⟩
    dsimp only at w hdb ⊢
    have hum:B9.m ub=some ⟨⟨[.slice none 0 0,.slice (rA gb gs) gs.length (rK 12 gs),.slice (some ⟨fb',0,none⟩) (u.funcs.length+1) (capOf 13)]⟩,100⟩:=by
     have h1:=w.u.m
     have h2:(fs++[c]).length=u.funcs.length+1:=w.u.fl.trans (by simp)
     unfold unitC at h1
     rw [show rA fb' (fs++[c])=some ⟨fb',0,none⟩ from if_neg (by simp),show rK 13 (fs++[c])=capOf 13 from if_neg (by simp),h2] at h1
     exact h1
    have hf61:u.funcs.length≤60:=by have:=w.u.fl;simp at this;omega
    by_cases h6:60 < u.funcs.length+1
    ·rw [if_pos h6]
     repeat (first|refine Y58 ?_|((with_reducible apply (RS.callEx (g0:=65)));(iterate 3 exact rfl);intro B2 hB2;refine ⟨_,fault0_ex (w.p.absd w.d hB2) 4 dp,?_⟩;rintro v H2 π2 ⟨rfl,p',o'⟩ sp2 hle2;have w:=w.step hB2 p' sp2.dom o')|refine Yy ?_|refine Y6 ?_|refine Y0 ?_|refine Y13 ?_|refine Y1 ?_|refine Y5 ?_)
     exact endsK_ret _ .nil fun B' a=>⟨rfl,gb,gs,fb',fs++[c],w.ends a⟩
    ·rw [if_neg h6]
     repeat (first|((with_reducible apply RS.load1B);(iterate 3 exact rfl);exact hum;exact w.d _ _ hum;exact rfl)|refine Yy ?_|refine Y4 ?_|refine Y0 ?_|refine Y1p ?_|refine Y1 ?_|refine Y3 ?_)
     exact endsK_ret _ .nil fun B' a=>⟨rfl,gb,gs,fb',fs++[c],w.ends a⟩
  ·have hcase:(dims=[]∧u2.is (tokN L) (b1 40)=false)∨¬ dims.length=0:=by
    cases dims with
    | nil=>exact .inl ⟨rfl,by
     cases hc:u2.is (tokN L) (b1 40) with
     | false=>rfl
     | true=>exact absurd ⟨rfl,hc⟩ hnp⟩
    | cons x l=>exact .inr (by simp)
   with_reducible apply W.seq
   refine W.joinNT (X:=Unit) (fun _=>[(0,ptrC pb),(1,ptrC ub),(5,ptrC db),(56,.bool false)]) (fun _ B=>NowU L tb cap pb h B u2 ub u gb gs fb fs∧B.m db=some ⟨⟨declC ⟨⟨s',k',dims⟩,nm,dp⟩ D dk⟩,116⟩∧RowAt B 0 3 D (dimsC dims)) ?_ ?_
   ·rcases hcase with ⟨rfl,his⟩|hne
    ·repeat (first|refine Y4a ?_|refine Y51 ?_|refine Y4l ?_|refine Yd ?_|refine Yo ?_|refine Y0 ?_|refine Y1d ?_|refine Y1 ?_|refine Y3 ?_)
     refine joinN_n rfl fun B' a=>⟨(),?_,w.ends a,a.up _ _ hdb,hr4.up (fun i _ c hc=>a.up i c hc) (Nat.le_refl _)⟩
     (repeat' (first|exact trivial|exact rfl|apply And.intro));done
    ·repeat (first|refine Y51 ?_|refine Y4l ?_|refine Yd ?_|refine Yc ?_|refine Y4 ?_|refine Yk ?_|refine Y0 ?_|refine Y1d ?_|refine Y1 ?_|refine Y3 ?_)
     refine joinN_n rfl fun B' a=>⟨(),?_,w.ends a,a.up _ _ hdb,hr4.up (fun i _ c hc=>a.up i c hc) (Nat.le_refl _)⟩
     (repeat' (first|exact trivial|exact rfl|apply And.intro));done
   clear w hdb hr4
   rintro _ G6 π6 s6 ⟨w,hdb,hr4⟩
   ((with_reducible apply W.seq);repeat (first|((with_reducible apply (RS.loadNB (vs:=declC ⟨⟨s',k',dims⟩,nm,dp⟩ D dk)));(iterate 3 exact rfl);exact hdb;exact w.d _ _ hdb;exact Nat.le_of_ble_eq_true rfl;exact rfl)|refine Y2 ?_|refine Y9 ?_|refine Ya ?_|refine Y0 ?_|refine Y1 ?_|refine Ym ?_))
   ((with_reducible apply W.seq);repeat (fail))
   refine W.absorbX fun G5 π5 a5=>?_
   replace hdb:=a5.up _ _ hdb
   replace hr4:=hr4.up (fun i _ c hc=>a5.up i c hc) (Nat.le_refl _)
   have hgb:G5.m (π6 0)=some ⟨⟨declC ⟨⟨s',k',dims⟩,nm,dp⟩ D dk++[.pointer none]⟩,124⟩:=a5.loc 0 (Nat.lt_succ_self 0)
   replace w:=w.ends a5
   generalize π6 0=tg at *
   have hdp:db≠pb:=ne_elemB hdb w.p.par rfl
   have hgp:tg≠pb:=ne_elemB hgb w.p.par rfl
   ((with_reducible apply W.seq);repeat (first|((with_reducible apply (RS.callEx (g0:=66)));(iterate 3 exact rfl);intro B5 hB5;refine ⟨_,take_ex hL (w.p.absd w.d hB5) _ h5,?_⟩;rintro v H5 π5 ⟨rfl,p5,o5⟩ sp5 hle5;have hdb:=(((OffP.refl pb _).abs hB5).trans o5).keep hdb (w.d _ _ hdb) hdp;have hgb:=(((OffP.refl pb _).abs hB5).trans o5).keep hgb (w.d _ _ hgb) hgp;have hr4:=hr4.upE (w.keptO (((OffP.refl pb _).abs hB5).trans o5)) rfl;have w:=w.step hB5 p5 sp5.dom o5)|refine Y11 ?_|refine Y0 ?_|refine Y1 ?_|refine Y1h ?_|refine Y3 ?_))
   ((with_reducible apply W.seq);repeat (first|((with_reducible apply (RS.callEx (g0:=68)));(iterate 3 exact rfl);intro B7 hB7;refine ⟨_,want_ex hL (w.p.absd w.d hB7) _ h6,?_⟩;rintro v H7 π7 ⟨rfl,p7,o7⟩ sp7 hle7;have hdb:=(((OffP.refl pb _).abs hB7).trans o7).keep hdb (w.d _ _ hdb) hdp;have hgb:=(((OffP.refl pb _).abs hB7).trans o7).keep hgb (w.d _ _ hgb) hgp;have hr4:=hr4.upE (w.keptO (((OffP.refl pb _).abs hB7).trans o7)) rfl;have w:=w.step hB7 p7 sp7.dom o7)|refine Y11 ?_|refine Y0 ?_|refine Y1 ?_|refine Ym ?_))
   have hup:ub≠pb:=ne_elemB w.u.m w.p.par rfl
   have hun:=w.d _ _ w.u.m
   with_reducible apply W.seq
   refine W.joinNT (X:=Nat) (fun _=>[(0,ptrC pb),(1,ptrC ub),(5,ptrC db)]) (fun x B=>NowU L tb cap pb h B u4 ub ⟨u.globals++[⟨⟨s',k',dims⟩,nm,dp⟩],u.funcs⟩ x (gs++[declC ⟨⟨s',k',dims⟩,nm,dp⟩ D dk++[.pointer none]]) fb fs∧B.m db=some ⟨⟨declC ⟨⟨s',k',dims⟩,nm,dp⟩ D dk⟩,116⟩) ?_ ?_
   ·by_cases hle:gs=[]
    ·subst hle
     have hum:H7.m ub=some ⟨⟨[.slice none 0 0,.slice none 0 0,.slice (rA fb fs) fs.length (rK 13 fs)]⟩,100⟩:=w.u.m
     repeat (first|refine Y3z ?_|refine Y44 ?_|refine Yi ?_|refine Y2g ?_|((with_reducible apply (RS.storeB (cs':=[.slice none 0 0,.slice (some ⟨π7 1,0,none⟩) 1 (capOf 12),.slice (rA fb fs) fs.length (rK 13 fs)])));(iterate 3 exact rfl);exact hum;exact hun;exact w.u.uw;exact Nat.le_of_ble_eq_true rfl;iterate 3 exact rfl)|((with_reducible apply (RS.nilPC mixed [(0,1),(0,2),(0,3),(0,4),(4,5),(3,5),(2,5),(1,5),(0,5),(4,6),(3,6),(2,6),(1,6),(0,6),(0,7)]));kernel_rfl;(repeat (refine ⟨fun x y hx hy=>(by obtain rfl:=Option.some.inj hx;obtain rfl:=Option.some.inj hy;exact pairR_free rfl rfl rfl rfl rfl rfl rfl (Nat.zero_le _) rfl),?_⟩));exact trivial;exact sideOK_all (j:=pb) (b:=ub) (Ne.symm hup) (by repeat' (first|exact trivial|exact .inl rfl|exact .inr rfl|apply And.intro));exact rfl)|refine Yf ?_|refine Y1 ?_)
     refine joinN_n rfl fun B' a=>⟨π7 1,?_,w.pushG (fun i c h1 h2 hc=>a.up i c (by show (if i=ub then _ else H7.m i)=_;rw [if_neg h1];exact hc)) a.dom ((a.up _ _ (if_pos rfl)).trans ?_) ((a.loc 1 (Nat.lt_succ_self 1)).trans ?_) (c:=declC ⟨⟨s',k',dims⟩,nm,dp⟩ D dk++[.pointer none]) ⟨D,dk,rfl,hr4⟩ rfl (Nat.le_trans a.rw (a.lo 1 (Nat.lt_succ_self 1))),a.up _ _ (by show (if db=ub then _ else H7.m db)=_;rw [if_neg (ne_elemB hdb hum rfl)];exact hdb)⟩
     ·(repeat' (first|exact trivial|exact rfl|apply And.intro));done
     ·unfold unitC rA rK
      simp
     ·show some _=some _
      simp
      try rfl
    ·have hum:H7.m ub=some ⟨⟨[.slice none 0 0,.slice (some ⟨gb,0,none⟩) gs.length (capOf 12),.slice (rA fb fs) fs.length (rK 13 fs)]⟩,100⟩:=by
      have:=w.u.m
      unfold unitC at this
      rw [show rA gb gs=some ⟨gb,0,none⟩ from if_neg hle,show rK 12 gs=capOf 12 from if_neg hle] at this
      exact this
     have hgn:=w.d _ _ (w.u.g hle)
     have hug:ub≠gb:=ne_elemB w.u.m (w.u.g hle) rfl
     repeat (first|refine Y3z ?_|refine Y44 ?_|refine Yi ?_|((with_reducible apply (RS.growXL (j:=gb) (i:=0)));(iterate 6 exact rfl);exact w.u.g hle;exact hgn;exact w.u.gw hle;exact flat_len w.u.gs12;(iterate 2 exact rfl);exact Nat.le_of_ble_eq_true rfl;exact rfl;exact Nat.le_trans (Nat.mul_le_mul_right _ (show gs.length+1≤61 from by omega)) (Nat.le_of_ble_eq_true rfl);exact Nat.le_trans (show gs.length+1≤61 from by omega) (Nat.le_of_ble_eq_true rfl))|((with_reducible apply (RS.storeB (cs':=[.slice none 0 0,.slice (some ⟨π7 1,0,none⟩) (gs.length+1) (capOf 12),.slice (rA fb fs) fs.length (rK 13 fs)])));(iterate 3 exact rfl);exact ((if_neg hug).trans hum);exact hun;exact w.u.uw;exact Nat.le_of_ble_eq_true rfl;iterate 3 exact rfl)|((with_reducible apply (RS.nilPC mixed [(0,1),(0,2),(0,3),(0,4),(4,5),(3,5),(2,5),(1,5),(0,5),(4,6),(3,6),(2,6),(1,6),(0,6),(0,7)]));kernel_rfl;(repeat (refine ⟨fun x y hx hy=>(by obtain rfl:=Option.some.inj hx;obtain rfl:=Option.some.inj hy;exact pairR_free rfl rfl rfl rfl rfl rfl rfl (Nat.zero_le _) rfl),?_⟩));exact trivial;exact sideTwo_all (i:=pb) (j:=gb) (b:=ub) (Ne.symm hup) (Ne.symm hug) (by repeat' (first|exact trivial|exact .inl rfl|exact .inr rfl|exact .inr (.inl rfl)|exact .inr (.inr rfl)|apply And.intro));exact rfl)|refine Yf ?_|refine Y1 ?_)
     refine joinN_n rfl fun B' a=>⟨π7 1,?_,w.pushG (fun i c h1 h2 hc=>a.up i c (by show (if i=ub then _ else if i=gb then none else H7.m i)=_;rw [if_neg h1,if_neg (h2 hle)];exact hc)) a.dom ((a.up _ _ (if_pos rfl)).trans ?_) ((a.loc 1 (Nat.lt_succ_self 1)).trans ?_) (c:=declC ⟨⟨s',k',dims⟩,nm,dp⟩ D dk++[.pointer none]) ⟨D,dk,rfl,hr4⟩ rfl (Nat.le_trans a.rw (a.lo 1 (Nat.lt_succ_self 1))),a.up _ _ (by show (if db=ub then _ else if db=gb then none else H7.m db)=_;rw [if_neg (ne_elemB hdb hum rfl),if_neg (ne_elemB hdb (w.u.g hle) rfl)];exact hdb)⟩
     ·(repeat' (first|exact trivial|exact rfl|apply And.intro));done
     ·unfold unitC rA rK
      simp
     ·show some _=some _
      simp
      try rfl
   ·clear hdb w hgb
    rintro gb' B9 π9 s9 ⟨w,hdb⟩
    dsimp only at w hdb ⊢
    have hum:B9.m ub=some ⟨⟨[.slice none 0 0,.slice (some ⟨gb',0,none⟩) (u.globals.length+1) (capOf 12),.slice (rA fb fs) fs.length (rK 13 fs)]⟩,100⟩:=by
     have h1:=w.u.m
     have h2:(gs++[(declC ⟨⟨s',k',dims⟩,nm,dp⟩ D dk++[Value.pointer none])]).length=u.globals.length+1:=w.u.gl.trans (by simp)
     unfold unitC at h1
     rw [show rA gb' (gs++[(declC ⟨⟨s',k',dims⟩,nm,dp⟩ D dk++[.pointer none])])=some ⟨gb',0,none⟩ from if_neg (by simp),show rK 12 (gs++[(declC ⟨⟨s',k',dims⟩,nm,dp⟩ D dk++[.pointer none])])=capOf 12 from if_neg (by simp),h2] at h1
     exact h1
    have hg61:u.globals.length≤60:=by have:=w.u.gl;simp at this;omega
    by_cases h6:60 < u.globals.length+1
    ·rw [if_pos h6]
     repeat (first|refine Y58 ?_|((with_reducible apply (RS.callEx (g0:=65)));(iterate 3 exact rfl);intro B2 hB2;refine ⟨_,fault0_ex (w.p.absd w.d hB2) 4 dp,?_⟩;rintro v H2 π2 ⟨rfl,p',o'⟩ sp2 hle2;have w:=w.step hB2 p' sp2.dom o')|refine Yy ?_|refine Y6 ?_|refine Y0 ?_|refine Y1x ?_|refine Y1 ?_|refine Y5 ?_)
     exact endsK_normal _ .nil fun B' a=>⟨rfl,gb',_,fb,fs,w.ends a⟩
    ·rw [if_neg h6]
     repeat (first|((with_reducible apply RS.load1B);(iterate 3 exact rfl);exact hum;exact w.d _ _ hum;exact rfl)|refine Yy ?_|refine Y4 ?_|refine Y0 ?_|refine Y1d ?_|refine Y1 ?_|refine Y3 ?_)
     exact endsK_normal _ .nil fun B' a=>⟨rfl,gb',_,fb,fs,w.ends a⟩
end
end Go.Proofs.YtgpigfcagppohaaGreatDoor
