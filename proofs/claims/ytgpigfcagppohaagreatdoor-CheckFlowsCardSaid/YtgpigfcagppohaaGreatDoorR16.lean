/-
  What the functions that the law reaches compute,told by plain data;it holds of programs that pass the check of right form and are light.
-/
import Derived.Test.YtgpigfcagppohaaGreatDoorR15
import Derived.Test.YtgpigfcagppohaaGreatDoorR3
set_option linter.unusedVariables false
set_option linter.unusedSimpArgs false
namespace Go.Proofs.YtgpigfcagppohaaGreatDoor
theorem bindS {α β:Type} {o:Option α} {f:α→Option β} {b:β} (h:o.bind f=some b):∃ a,o=some a∧f a=some b:=by
 cases o with
 | none=>cases h
 | some a=>exact ⟨a,rfl,h⟩
def KS (a b:CS):Prop:=b={ a with fk:=b.fk,fa:=b.fa }
theorem KS.refl (a:CS):KS a a:=rfl
theorem KS.trans {a b c:CS} (h1:KS a b) (h2:KS b c):KS a c:=by
 unfold KS at *
 rw [h1] at h2
 exact h2
theorem KS.fail (a:CS) (k p:Nat):KS a (a.fail k p):=by
 unfold CS.fail;split<;>rfl
theorem KS.f {a b:CS} (h:KS a b):b.gl=a.gl∧b.data=a.data∧b.ret=a.ret∧b.lc=a.lc∧b.nm=a.nm∧b.depth=a.depth:=by
 unfold KS at h;rw [h];exact ⟨rfl,rfl,rfl,rfl,rfl,rfl⟩
def RK (R:ExprS→CS→Option (NodeS × CS)):Prop:=∀ x st e st',R x st=some (e,st')→KS st st'
section
variable {R:ExprS→CS→Option (NodeS × CS)} {x:ExprS} {st st':CS} {e:NodeS}
theorem exprM_ks (HR:RK R) (h:exprM R x st=some (e,st')):KS st st':=by
 unfold exprM at h
 obtain ⟨⟨e1,st1⟩,h1,h⟩:=bindS h
 dsimp only at h
 have k:=HR _ _ _ _ h1
 split at h
 ·cases h;exact k
 ·obtain ⟨v,_,h⟩:=Option.map_eq_some_iff.1 h
  cases h;exact k
theorem okM_ks (HR:RK R) (h:okM R x st=some (e,st')):KS st st':=by
 unfold okM at h
 obtain ⟨⟨e1,st1⟩,h1,h⟩:=bindS h
 dsimp only at h
 split at h
 ·cases h
 ·cases h;exact exprM_ks HR h1
theorem intM_ks (HR:RK R) {l:LfS} (h:intM R x st=some (e,l,st')):KS st st':=by
 unfold intM at h
 obtain ⟨⟨e1,st1⟩,h1,h⟩:=bindS h
 dsimp only at h
 split at h
 ·cases h;exact okM_ks HR h1
 ·cases h
theorem truthM_ks (HR:RK R) {no:ByteArray} {b:Bool} (h:truthM R x no st=some (e,b,st')):KS st st':=by
 unfold truthM at h
 obtain ⟨⟨e1,st1⟩,h1,h⟩:=bindS h
 dsimp only at h
 split at h
 ·cases h;exact okM_ks HR h1
 ·cases h
theorem becomeS_ks {t:TyS} {p:Nat} {v:NodeS} (h:becomeS t e p st=some (v,st')):KS st st':=by
 unfold becomeS at h
 split at h
 ·split at h
  ·cases h;exact KS.fail _ _ _
  ·obtain ⟨w,_,h⟩:=Option.map_eq_some_iff.1 h
   cases h;exact KS.refl _
 ·cases h
theorem assignS_ks {a v:NodeS} {p:Nat} (h:assignS a e p st=some (v,st')):KS st st':=by
 unfold assignS at h
 split at h
 ·cases h
 ·obtain ⟨⟨v1,st1⟩,h1,h⟩:=bindS h
  cases h;exact becomeS_ks h1
theorem varS_ks {s:ByteArray} {p:Nat} (h:varS s p st=some (e,st')):KS st st':=by
 unfold varS at h
 split at h
 ·obtain ⟨w,_,h⟩:=Option.map_eq_some_iff.1 h
  cases h;exact KS.refl _
 ·split at h
  ·cases h;exact KS.refl _
  ·split at h
   ·cases h
   ·cases h;exact KS.fail _ _ _
theorem rawB_ks (HR:RK R):RK (rawB R):=by
 intro x st e st' h
 obtain ⟨op,p,s,tok,ty,kids⟩:=x
 unfold rawB at h
 dsimp only at h
 split at h
 ·split at h
  ·cases h;exact KS.refl _
  ·cases h
 split at h
 ·exact varS_ks h
 split at h
 ·unfold callM at h
  split at h
  ·split at h
   ·cases h
   ·unfold outM at h
    obtain ⟨⟨e1,l1,st1⟩,h1,h⟩:=bindS h
    dsimp only at h
    split at h
    ·cases h;exact (intM_ks HR h1).trans (KS.fail _ _ _)
    ·obtain ⟨v,_,h⟩:=bindS h
     cases h;exact intM_ks HR h1
  ·cases h
 split at h
 ·unfold indexM at h
  split at h
  ·obtain ⟨⟨a,st1⟩,h1,h⟩:=bindS h
   obtain ⟨⟨b,st2⟩,h2,h⟩:=bindS h
   obtain ⟨c,_,h⟩:=bindS h
   obtain ⟨d,_,h⟩:=bindS h
   cases h;exact (okM_ks HR h1).trans (okM_ks HR h2)
  ·cases h
 split at h
 ·unfold unaryM at h
  split at h
  ·split at h
   ·obtain ⟨⟨a,st1⟩,h1,h⟩:=bindS h
    obtain ⟨d,_,h⟩:=bindS h
    cases h;exact okM_ks HR h1
   split at h
   ·cases h
   split at h
   ·obtain ⟨⟨a,b,st1⟩,h1,h⟩:=bindS h
    cases h;exact truthM_ks HR h1
   split at h
   ·cases h
   ·obtain ⟨⟨a,b,st1⟩,h1,h⟩:=bindS h
    obtain ⟨v,_,h⟩:=bindS h
    obtain ⟨z,_,h⟩:=bindS h
    cases h;exact intM_ks HR h1
  ·cases h
 split at h
 ·unfold castM at h
  split at h
  ·split at h
   ·obtain ⟨⟨a,b,st1⟩,h1,h⟩:=bindS h
    cases h;exact intM_ks HR h1
   ·cases h
  ·cases h
 split at h
 ·unfold binaryM at h
  split at h
  ·obtain ⟨⟨a,st1⟩,h1,h⟩:=bindS h
   obtain ⟨⟨b,st2⟩,h2,h⟩:=bindS h
   obtain ⟨c,_,h⟩:=bindS h
   cases h;exact (okM_ks HR h1).trans (okM_ks HR h2)
  ·cases h
 split at h
 ·unfold logicM at h
  split at h
  ·obtain ⟨⟨a,s1,st1⟩,h1,h⟩:=bindS h
   obtain ⟨⟨b,s2,st2⟩,h2,h⟩:=bindS h
   cases h;exact (truthM_ks HR h1).trans (truthM_ks HR h2)
  ·cases h
 split at h
 ·unfold condM at h
  split at h
  ·obtain ⟨⟨a,s1,st1⟩,h1,h⟩:=bindS h
   obtain ⟨⟨b,s2,st2⟩,h2,h⟩:=bindS h
   obtain ⟨⟨c,s3,st3⟩,h3,h⟩:=bindS h
   obtain ⟨v,_,h⟩:=bindS h
   obtain ⟨w,_,h⟩:=bindS h
   cases h;exact (truthM_ks HR h1).trans ((intM_ks HR h2).trans (intM_ks HR h3))
  ·cases h
 split at h
 ·unfold becomesM at h
  split at h
  ·split at h
   ·cases h
   ·obtain ⟨⟨a,st1⟩,h1,h⟩:=bindS h
    dsimp only at h
    split at h
    ·cases h
    ·obtain ⟨⟨b,st2⟩,h2,h⟩:=bindS h
     exact (HR _ _ _ _ h1).trans ((okM_ks HR h2).trans (assignS_ks h))
  ·cases h
 cases h
end
theorem rawM_ks:∀ n,RK (rawM n)
 | 0=>fun _ _ _ _ h=>by cases h
 | n+1=>rawB_ks (rawM_ks n)
def KD (a b:CS):Prop:=b.depth=a.depth∧b.gl=a.gl∧b.data=a.data∧b.ret=a.ret
theorem KD.refl (a:CS):KD a a:=⟨rfl,rfl,rfl,rfl⟩
theorem KD.trans {a b c:CS} (h1:KD a b) (h2:KD b c):KD a c:=⟨h2.1.trans h1.1,h2.2.1.trans h1.2.1,h2.2.2.1.trans h1.2.2.1,h2.2.2.2.trans h1.2.2.2⟩
theorem KS.kd {a b:CS} (h:KS a b):KD a b:=⟨h.f.2.2.2.2.2,h.f.1,h.f.2.1,h.f.2.2.1⟩
theorem localS_kd {d:DeclS} {t:TyS} {st st':CS} {i:Nat} (h:localS d t st=some (i,st')):KD st st':=by
 unfold localS at h
 dsimp only at h
 have k0:∀ c:Bool,KD st (if c=true then st.fail 13 d.pos else st):=fun c=>by
  cases c with
  | true=>exact (KS.fail _ _ _).kd
  | false=>exact KD.refl _
 generalize hg:(if (st.nm.any fun x=>eqB x.1 d.name && x.2.2 == st.depth)=true then st.fail 13 d.pos else st)=st1 at h
 have k1:KD st st1:=by rw [← hg];exact k0 _
 obtain ⟨n,_,h⟩:=bindS h
 split at h
 ·cases h;exact k1
 split at h
 ·cases h
 obtain ⟨m,_,h⟩:=bindS h
 cases h
 refine k1.trans ?_
 split
 ·exact (KS.fail st1 5 d.pos).kd
 ·exact KD.refl _
theorem letM_kd {N p:Nat} {d:DeclS} {x:Option ExprS} {st st':CS} {b:BodyS} (h:letM N p d x st=some (b,st')):KD st st':=by
 unfold letM at h
 obtain ⟨t,_,h⟩:=bindS h
 split at h
 ·obtain ⟨⟨i,st1⟩,h1,h⟩:=bindS h
  cases h;exact localS_kd h1
 ·obtain ⟨⟨e,st1⟩,h1,h⟩:=bindS h
  have k1:=(exprM_ks (rawM_ks N) h1).kd
  dsimp only at h
  split at h
  ·cases h;exact k1
  obtain ⟨⟨i,st2⟩,h2,h⟩:=bindS h
  have k2:=k1.trans (localS_kd h2)
  dsimp only at h
  split at h
  ·cases h;exact k2
  obtain ⟨⟨v,st3⟩,h3,h⟩:=bindS h
  cases h;exact k2.trans (assignS_ks h3).kd
theorem goM_kd {N n:Nat} (ih:∀ s st b st',stmtM N n s st=some (b,st')→KD st st'):∀ (l:List StmtS) (out:List BodyS) (st:CS) (r:List BodyS) (st':CS),stmtM.go N n l out st=some (r,st')→KD st st'
 | [],out,st,r,st',h=>by
  rw [stmtM.go] at h;cases h;exact KD.refl _
 | s::l,out,st,r,st',h=>by
  rw [stmtM.go] at h
  split at h
  ·cases h;exact KD.refl _
  ·obtain ⟨⟨b,st1⟩,h1,h⟩:=bindS h
   exact (ih _ _ _ _ h1).trans (goM_kd ih l _ _ _ _ h)
theorem stmtM_kd {N:Nat}:∀ (n:Nat) (s:StmtS) (st:CS) (b:BodyS) (st':CS),stmtM N n s st=some (b,st')→KD st st'
 | 0,s,st,b,st',h=>by rw [stmtM.eq_def] at h;cases s;cases h
 | n+1,.mk kind p d x kids,st,b,st',h=>by
  rw [stmtM.eq_def] at h
  dsimp only at h
  split at h
  ·split at h
   ·cases h
   ·obtain ⟨⟨e,st1⟩,h1,h⟩:=bindS h
    cases h;exact (exprM_ks (rawM_ks N) h1).kd
  split at h
  ·exact letM_kd h
  split at h
  ·split at h
   ·cases h
   ·obtain ⟨⟨l,st1⟩,h1,h⟩:=bindS h
    have k1:=goM_kd (fun s st b st' h=>stmtM_kd n s st b st' h) _ _ _ _ _ h1
    cases h
    exact ⟨by show st1.depth - 1=st.depth;rw [k1.1];rfl,k1.2.1,k1.2.2.1,k1.2.2.2⟩
  split at h
  ·split at h
   ·cases h
   ·obtain ⟨⟨e,st1⟩,h1,h⟩:=bindS h
    have k1:=(exprM_ks (rawM_ks N) h1).kd
    dsimp only at h
    split at h
    ·cases h;exact k1
    obtain ⟨⟨v,st2⟩,h2,h⟩:=bindS h
    cases h;exact k1.trans (becomeS_ks h2).kd
  cases h
open Go.AH
attribute [local irreducible] W RS WR
section
variable {R:ExprS→CS→Option (NodeS × CS)} {h:Hp} {q:Pl} {st st':CS}
theorem alone_ex (HR:RawOK R) {x:ExprS} {e:NodeS} (hs:exprM R x st=some (e,st')) {xb lo:Nat} (c0:ChkF h q st) (hx:ExprAt h lo xb x):EX Tryz.prog 76 [ptrC q.cb,ptrC xb] h (RawQ q st h e st'):=by
 refine EX.intro (fn:=Tryz.f76) (c:=(Tryz.f76.body.getD .skip)) Tryz.func76 (by kernel_rfl) Tryz.ntmps76 (by kernel_rfl) fun π s0=>?_
 conv=>arg 2;whnf
 have w:=NowC.start c0 s0
 have hk3:=kd_le e.ty
 by_cases hf:st'.fk=0
 ·repeat (first|((with_reducible apply (RS.callEx (g0:=119)));(iterate 3 exact rfl);intro B1 hB1;have wa:=w.abs hB1;refine ⟨_,cexpr_ex HR hs wa.c (hx.upX wa.k),?_⟩;rintro v H1 π1 ⟨b1,rfl,he1,c1,o1,n1'⟩ sp1 hle1;have he1:=NodeAt.weak he1 wa.o.1;have kk:=(Absb.kx hB1).trans (wa.kxo o1);have w:=wa.step c1 o1 n1' sp1.dom;obtain ⟨tb1,tx1,nu1,re1,A1,n1,c1',hma,_⟩:=he1.cells)|refine Yb ?_|((with_reducible apply (RS.load1B (v:=.int .i64 (kdT e.ty))));(iterate 3 exact rfl);exact hma;exact w.d _ _ hma;exact node_kd _ _ _ _ _ _ _ _ _ _ _)|refine Y8 ?_|refine Yd ?_|refine Y4 ?_|refine Y0 ?_|refine Yv ?_|refine Y1 ?_|refine Y3 ?_)
  exact endsK_ret _ (.cons (.tmp rfl) .nil) fun B' a=>w.ends a he1
 ·repeat (first|((with_reducible apply (RS.callEx (g0:=119)));(iterate 3 exact rfl);intro B1 hB1;have wa:=w.abs hB1;refine ⟨_,cexpr_ex HR hs wa.c (hx.upX wa.k),?_⟩;rintro v H1 π1 ⟨b1,rfl,he1,c1,o1,n1'⟩ sp1 hle1;have he1:=NodeAt.weak he1 wa.o.1;have kk:=(Absb.kx hB1).trans (wa.kxo o1);have w:=wa.step c1 o1 n1' sp1.dom;obtain ⟨tb1,tx1,nu1,re1,A1,n1,c1',hma,_⟩:=he1.cells)|refine Y1j ?_|refine Y8 ?_|refine Yc ?_|refine Yk ?_|refine Y0 ?_|refine Yv ?_|refine Y1 ?_|refine Y3 ?_)
  exact endsK_ret _ (.cons (.tmp rfl) .nil) fun B' a=>w.ends a he1
end
def BackQ (q:Pl) (ob:Nat) (h:Hp) (st':CS) (v:Value) (h':Hp):Prop:=v=.tuple ⟨[]⟩∧ChkF h' q st'∧KeptO ob h h'
def LetQ (q:Pl) (ob:Nat) (h:Hp) (st':CS) (v:Value) (h':Hp):Prop:=v=.tuple ⟨[]⟩∧∃ lb na nc,ChkF h' { q with lb:=lb,na:=na,nc:=nc } st'∧KeptO ob h h'
section
variable {R:ExprS→CS→Option (NodeS × CS)} {h:Hp} {q:Pl} {st st':CS}
theorem back_ex (HR:RawOK R) {x:ExprS} {p sb ob lo:Nat} {e:NodeS} {st1:CS} {dc:DeclS} {kids:List StmtS} (h1:exprM R x st=some (e,st1)) (h2:(st1.fk≠0∧st'=st1)∨(st1.fk=0∧∃ v,becomeS (.int st.ret) e p st1=some (v,st'))) (c0:ChkF h q st) (hsa:StmtAt h lo sb (.mk 11 p dc (some x) kids)) (hom0:h.m ob=some ⟨⟨bodyC 11 p 0 (.pointer none) none 0 0⟩,196⟩) (how:rwM≤ob):EX Tryz.prog 86 [ptrC q.cb,ptrC sb,ptrC ob] h (BackQ q ob h st'):=by
 refine EX.intro (fn:=Tryz.f86) (c:=(Tryz.f86.body.getD .skip)) Tryz.func86 (by kernel_rfl) Tryz.ntmps86 (by kernel_rfl) fun π s0=>?_
 conv=>arg 2;whnf
 have w:=NowC.start c0 s0
 cases hsa with
 | mk h0 hsm hd hE hk hlen hr =>
  obtain ⟨xb,rfl,hx⟩:=hE
  ((with_reducible apply W.seq);repeat (first|refine Y4u ?_|((with_reducible apply RS.loadNB);(iterate 3 exact rfl);exact w.c.r;exact w.d _ _ w.c.r;exact Nat.le_of_ble_eq_true rfl;exact rfl)|refine Yf ?_|refine Y2 ?_|refine Y9 ?_|refine Y0 ?_|refine Y1 ?_|refine Ym ?_))
  refine W.absorbX fun B π1 a0=>?_
  have w:=w.abs a0
  have h6:B.m (π 0)=some ⟨⟨intC st.ret⟩,71⟩:=a0.loc 0 (Nat.le_of_ble_eq_true rfl)
  have hsm:=a0.up _ _ hsm
  have hom:=a0.up _ _ hom0
  have hx:=hx.upX (Absb.kx a0)
  generalize π 0=tk at *
  rcases h2 with ⟨hf,rfl⟩|⟨hf,v,h3⟩
  ·repeat (first|refine Y1j ?_|refine Y1g ?_|refine Y54 ?_|((with_reducible apply (RS.callEx (g0:=119)));(iterate 3 exact rfl);intro B1 hB1;have wa:=w.abs hB1;refine ⟨_,cexpr_ex HR h1 wa.c (hx.upX (Absb.kx hB1)),?_⟩;rintro v H1 π1 ⟨b1,rfl,he1,c1,o1,n1'⟩ sp1 hle1;have he1:=NodeAt.weak he1 wa.o.1;have kk:=(Absb.kx hB1).trans (wa.kxo o1);have w:=wa.step c1 o1 n1' sp1.dom;have h6:=kk _ _ h6 rfl;have hsm:=kk _ _ hsm rfl;have hom:=kk _ _ hom rfl)|refine Yl ?_|refine Y0 ?_|refine Y1p ?_|refine Y1 ?_|refine Y5 ?_|refine Y3 ?_)
   exact endsK_ret _ .nil fun B' a=>⟨rfl,(w.abs a).c,(w.abs a).k.o ob⟩
  ·repeat (first|refine Yb ?_|((with_reducible apply RS.load1B);(iterate 3 exact rfl);exact h6;exact w.d _ _ h6;exact rfl)|((with_reducible apply RS.loadNB);(iterate 3 exact rfl);exact h6;exact w.d _ _ h6;exact Nat.le_of_ble_eq_true rfl;exact rfl)|refine Y1g ?_|refine Y54 ?_|((with_reducible apply (RS.callEx (g0:=119)));(iterate 3 exact rfl);intro B1 hB1;have wa:=w.abs hB1;refine ⟨_,cexpr_ex HR h1 wa.c (hx.upX (Absb.kx hB1)),?_⟩;rintro v H1 π1 ⟨b1,rfl,he1,c1,o1,n1'⟩ sp1 hle1;have he1:=NodeAt.weak he1 wa.o.1;have kk:=(Absb.kx hB1).trans (wa.kxo o1);have w:=wa.step c1 o1 n1' sp1.dom;have h6:=kk _ _ h6 rfl;have hsm:=kk _ _ hsm rfl;have hom:=kk _ _ hom rfl)|((with_reducible apply (RS.callYE (g0:=127) (fun _=>true)));(iterate 3 exact rfl);intro B3 hde3 hB3;have wa:=w.abs hB3;refine ⟨_,become_ex (t:=.int st.ret) (tb:=0) wa.o.1 wa.c (he1.up (Absb.kx hB3)) h3,(fun _ _ _ i _ hc=>by cases hc),?_⟩;rintro v3 H3 k3 l3 ⟨b3,rfl,he3,c3,o3,n3⟩ sp3 hle3 hm3 hden3 hwf3 hk3;have kk3:=(Absb.kx hB3).trans (wa.kxo o3);have hon:=w.d _ _ hom;have hob3:=kk3 _ _ hom rfl)|((with_reducible apply (RS.storeB (cs':=bodyC 11 p 0 (ptrC b3) none 0 0)));(iterate 3 exact rfl);exact (if_pos hon).trans hob3;exact hon;exact how;exact Nat.le_of_ble_eq_true rfl;iterate 3 exact rfl)|((with_reducible apply (RS.nilPC mixed [(0,1),(1,2),(0,2),(2,3),(1,3),(0,3),(3,4),(2,4),(1,4),(0,4),(3,5),(2,5),(1,5),(0,5),(3,6),(2,6),(1,6),(0,6),(3,7),(2,7),(1,7),(0,7),(0,8)]));kernel_rfl;(repeat (refine ⟨fun x y hx hy=>(by obtain rfl:=Option.some.inj hx;obtain rfl:=Option.some.inj hy;first|exact pairR_free rfl rfl rfl rfl rfl rfl rfl (Nat.zero_le _) rfl|(unfold pairR crossB;simp [recYE,recP,recN,recWB,noneB,outO,outR,memL])),?_⟩));exact trivial;exact sbN_side (by repeat' (first|exact trivial|exact rfl|apply And.intro));exact rfl)|refine Yl ?_|refine Y4 ?_|refine Yr ?_|refine Y1d ?_|refine Y1 ?_|refine Y3 ?_)
   exact endsK_normal _ .nil fun B' a=>⟨rfl,c3.upS (KeptS.of (cutC_up hden3 a (Nat.le_refl _) fun _ _=>rfl) hob3 rfl),fun i c hne hi hk=>cutC_up hden3 a (Nat.le_refl _) (fun _ _=>rfl) i c hne (kk3 i c (w.k i c hi hk) hk)⟩
end
end Go.Proofs.YtgpigfcagppohaaGreatDoor
