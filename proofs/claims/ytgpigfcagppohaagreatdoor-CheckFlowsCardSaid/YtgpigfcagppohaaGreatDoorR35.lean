/-
  What the functions that the law reaches compute,told by plain data;it holds of programs that pass the check of right form and are light.
-/
import Derived.Test.YtgpigfcagppohaaGreatDoorR31
import Derived.Test.YtgpigfcagppohaaGreatDoorR34
set_option linter.unusedVariables false
set_option linter.unusedSimpArgs false
namespace Go.Proofs.YtgpigfcagppohaaGreatDoor
open Go.AH
attribute [local irreducible] W RS WR
theorem outers_len {T:Nat→TokS} {m:Nat}:∀ {n:Nat} {u u':UnitS} {st t:PS},outersS T m n u st=some (u',t)→(st.fk=0→u.globals.length≤60∧u.funcs.length≤60)→t.fk=0→u'.globals.length≤60∧u'.funcs.length≤60
 | 0,_,_,_,_,h,_,_=>by cases h
 | n+1,u,u',st,t,h,hl,ht=>by
  rw [outersS] at h
  split at h
  ·simp only [Option.some.injEq,Prod.mk.injEq] at h
   obtain ⟨rfl,rfl⟩:=h
   exact hl ht
  ·rename_i hc
   obtain ⟨⟨u1,st1⟩,h1,h2⟩:=bind_some' h
   have h0:st.fk=0:=Classical.byContradiction fun e=>hc (.inl e)
   exact outers_len h2 (fun h3=>outer_len h1 (hl h0) h3) ht
theorem parseT_len {l:List UInt8} {u:UnitS} (h:parseT l=some (.ok u)):u.globals.length≤60:=by
 obtain ⟨L,h1,h2,h3⟩:=parseT_iff h
 unfold parseU at h3
 obtain ⟨⟨u1,t1⟩,h4,h5⟩:=Option.map_eq_some_iff.1 h3
 dsimp only at h5
 split at h5
 ·cases h5
 ·rename_i hf
  cases h5
  exact (outers_len h4 (fun _=>⟨Nat.zero_le _,Nat.zero_le _⟩) (Classical.byContradiction hf)).1
section
variable {h:Hp} {q:Pl} {st st':CS} {F Fs:Value} {mn:Int} {u:UnitS} {ug uf:Nat} {gs fs:List (List Value)}
theorem valueC_tf (l:LfS) (C:Value) (p:Nat):TF Tryz.prog 40 ⟨[C,.agg ⟨intC l⟩,.int .i64 p]⟩ h (.tuple ⟨[]⟩) h:=by
 refine TF.exact (fn:=Tryz.f40) (c:=(Tryz.f40.body.getD .skip)) Tryz.func40 (by kernel_rfl) Tryz.ntmps40 (by kernel_rfl) (fun s0=>old0 s0 (by simp)) fun π s0=>?_
 conv=>arg 2;whnf
 repeat (first|refine Y26 ?_|refine Yc ?_|refine Yo ?_|refine Yh ?_|refine Yk ?_|refine Y0 ?_|refine Y1d ?_|refine Y1 ?_|refine Y3 ?_)
 exact endsK_normal _ .nil fun B' a=>⟨rfl,a.up⟩
theorem resultC_tf (l:LfS) (C:Value) (p:Nat):TF Tryz.prog 39 ⟨[C,.agg ⟨intC l⟩,.int .i64 p]⟩ h (.tuple ⟨[]⟩) h:=by
 refine TF.exact (fn:=Tryz.f39) (c:=(Tryz.f39.body.getD .skip)) Tryz.func39 (by kernel_rfl) Tryz.ntmps39 (by kernel_rfl) (fun s0=>old0 s0 (by simp)) fun π s0=>?_
 conv=>arg 2;whnf
 repeat (first|((with_reducible apply (RS.callA (g0:=40)));(iterate 3 exact rfl);exact fun B' hB'=>valueC_tf _ _ _)|refine Y26 ?_|refine Y6 ?_|refine Yh ?_|refine Yg ?_|refine Y0 ?_|refine Y1x ?_|refine Y1 ?_|refine Y5 ?_)
 exact endsK_normal _ .nil fun B' a=>⟨rfl,a.up⟩
theorem structs_tf (w:ChkW h q F Fs mn st) (hU:UnitAt h q.ub u ug gs uf fs):TF Tryz.prog 17 ⟨[ptrC q.cb]⟩ h (.tuple ⟨[]⟩) h:=by
 refine TF.exact (fn:=Tryz.f17) (c:=(Tryz.f17.body.getD .skip)) Tryz.func17 (by kernel_rfl) Tryz.ntmps17 (by kernel_rfl) (fun s0=>old0 s0 (by simp)) fun π s0=>?_
 conv=>arg 2;whnf
 repeat (first|refine Y39 ?_|refine Y5g ?_|refine Y1l ?_|refine Y23 ?_|refine Yy ?_|refine Y4 ?_|refine Y0 ?_|refine Y4p ?_|refine Y1 ?_|refine Y3 ?_|refine Yn ?_)
 exact endsK_normal _ .nil fun B' a=>⟨rfl,a.up⟩
theorem inits_tf (w:ChkW h q F Fs mn st) (hU:UnitAt h q.ub u ug gs uf fs) (hn:u.globals.length≤60):TF Tryz.prog 20 ⟨[ptrC q.cb]⟩ h (.tuple ⟨[]⟩) h:=by
 refine TF.exact (fn:=Tryz.f20) (c:=(Tryz.f20.body.getD .skip)) Tryz.func20 (by kernel_rfl) Tryz.ntmps20 (by kernel_rfl) (fun s0=>old0 s0 (by simp)) fun π s0=>?_
 conv=>arg 2;whnf
 have hgl:=hU.gl
 ((with_reducible apply W.seq);repeat (first|refine Y39 ?_|refine Yy ?_|refine Y0 ?_|refine Y1 ?_|refine Y24 ?_))
 refine W.loopN (X:=Nat) (fun i=>[(0,ptrC q.cb),(10,.slice (rA ug gs) gs.length (rK 12 gs)),(11,.int .i64 gs.length),(12,.int .i64 i)]) (fun i B=>i≤gs.length∧∀ x b,h.m x=some b→B.m x=some b) (fun i=>gs.length - i)
  (fun B' a=>⟨0,?_,Nat.zero_le _,a.up⟩) ?_
 ·(repeat' (first|exact trivial|exact rfl|apply And.intro));done
 rintro i B π1 sB ⟨hle,hup⟩
 dsimp only at hle hup ⊢
 have wB:=w.upA hup
 have UB:=hU.upX (KeptX.of hup)
 by_cases hi:i < gs.length
 ·obtain ⟨d,hd⟩:∃ d,u.globals[i]?=some d:=⟨_,List.getElem?_eq_getElem (by omega)⟩
  obtain ⟨c,hc⟩:∃ c,gs[i]?=some c:=⟨_,List.getElem?_eq_getElem (by omega)⟩
  obtain ⟨A,k,rfl,_⟩:=hU.hasG i c d hc hd
  obtain ⟨htk,hln⟩:=flatT hU.gs12 hc (o:=0) (n:=12) (by omega)
  have hg0:gs≠[]:=fun e=>by rw [e] at hi;exact absurd hi (Nat.not_lt_zero _)
  have hgB:=UB.g hg0
  have hsw:some (Value.slice (rA ug gs) gs.length (rK 12 gs))=some (.slice (some ⟨ug,0,none⟩) gs.length (capOf 12)):=by unfold rA rK;rw [if_neg hg0,if_neg hg0]
  rcases (show decide (st.fk=0)=true∨decide (st.fk=0)=false by cases decide (st.fk=0);exact .inr rfl;exact .inl rfl) with hfk|hfk
  all_goals
   repeat (first|refine Y6c ?_|refine Y4x ?_|refine Y3w ?_|((with_reducible apply (RS.callA (g0:=21)));(iterate 3 exact rfl);exact fun B' hB'=>(by have hck:=cok_tf (w.upA fun x b hb=>hB'.up _ _ (hup _ _ hb)) hfk;exact hck))|refine Y8 ?_|refine Yd ?_|refine Yc ?_|refine Y6 ?_|refine Yp ?_|refine Yh ?_|refine Y2 ?_|refine Y9 ?_|refine Yk ?_|refine Y0 ?_|refine Yt ?_|refine Y1 ?_|refine Y5 ?_|refine Y3 ?_)
   refine roundN_n rfl fun B' a=>⟨i+1,?_,⟨hi,fun x b hb=>a.up _ _ (hup _ _ hb)⟩,Nat.sub_lt_sub_left hi (Nat.lt_succ_self i)⟩
   (repeat' (first|exact trivial|exact rfl|apply And.intro));done
 ·repeat (first|refine Y4 ?_|refine Y0 ?_|refine Y36 ?_|refine Y1 ?_|refine Y3 ?_|refine Yn ?_)
  exact endsK_normal _ .nil fun B' a=>⟨rfl,fun x b hb=>a.up _ _ (hup _ _ hb)⟩
end
section
variable {h:Hp} {u:UnitS} {ug uf:Nat} {gs fs:List (List Value)}
def SigQ (q:Pl) (h:Hp) (st:CS) (l:LfS) (v:Value) (h':Hp):Prop:=v=.tuple ⟨[]⟩∧(st.fk≠0→∀ i b,h.m i=some b→h'.m i=some b)∧(st.fk=0→∃ fb rb fp,PreF h' { q with fb:=fb,rb:=rb,fp:=fp } { st with ret:=l }∧KeptX h h')
theorem signatures_ex {q:Pl} {st:CS} {f:FuncDS} {l:LfS} (hu:u.funcs=[f]) (hp:f.params=[]) (hmn:eqB f.name bMain=true) (hno:∀ d∈u.globals,eqB d.name bMain=false) (ht:typS f.ret=some (.int l)) (hsec:l.sec=false) (hgn:u.globals.length≤60) (hna:q.na=none) (hnc:q.nc=0) (hnm0:st.nm=[]) (hdp:st.depth=0) (hlc:st.lc=[]) (c0:ChkW h q (.pointer none) (.slice none 0 0) (-1) st) (hU:UnitAt h q.ub u ug gs uf fs):EX Tryz.prog 19 [ptrC q.cb] h (SigQ q h st l):=by
 obtain ⟨cb,ub,pb,tb,gb,fb0,lb,rb0,na,nc,fp0⟩:=q
 obtain ⟨fk,fa,gl,data,ret,lc,nm,depth⟩:=st
 obtain ⟨sz,sg,sec⟩:=l
 dsimp only at hna hnc hnm0 hdp hlc hU hsec
 subst hna;subst hnc;subst hnm0;subst hdp;subst hlc;subst hsec
 refine EX.intro (fn:=Tryz.f19) (c:=(Tryz.f19.body.getD .skip)) Tryz.func19 (by kernel_rfl) Tryz.ntmps19 (by kernel_rfl) fun π s0=>?_
 conv=>arg 2;whnf
 have hc0:=c0.c
 have hp0:=c0.p
 have hum:=hU.m
 obtain ⟨c,hfs⟩:∃ c,fs=[c]:=by
  have h1:=hU.fl
  rw [hu] at h1
  match fs,h1 with
  | [c],_=>exact ⟨c,rfl⟩
 subst hfs
 obtain ⟨A,k,bb,d,⟨hd1,hd2n,hd3,hd4,hd5⟩,rfl,hsa⟩:=hU.has 0 c f rfl (by rw [hu];rfl)
 obtain ⟨rfl,rfl⟩:=hd5 hp
 rw [hp] at *
 have hne:[funcDC d none ([]:List DeclS).length 0 (ptrC bb)]≠[]:=fun e=>by cases e
 have hsw:some (Value.slice (rA uf [funcDC d none 0 0 (ptrC bb)]) 1 (rK 13 [funcDC d none 0 0 (ptrC bb)]))=some (.slice (some ⟨uf,0,none⟩) 1 (capOf 13)):=rfl
 have hfm:=hU.f hne
 obtain ⟨htk,hln⟩:=flatT hU.fs13 (i:=0) (x:=funcDC d none 0 0 (ptrC bb)) rfl (o:=0) (n:=13) (by omega)
 ((with_reducible apply W.seq);repeat (fail))
 ((with_reducible apply W.seq);repeat (first|((with_reducible apply RS.load1B);(iterate 3 exact rfl);first|exact hc0;exact s0.dom _ _ hc0;exact rfl|exact hum;exact s0.dom _ _ hum;exact rfl)|refine Y4e ?_|refine Y1l ?_|refine Yy ?_|refine Y0 ?_|refine Y1 ?_|refine Y24 ?_))
 ((with_reducible apply W.seq);repeat (first|refine Y2b ?_|refine Y0 ?_|refine Y1 ?_|refine Ym ?_))
 ((with_reducible apply W.seq);repeat (first|refine Y1h ?_|refine Y5 ?_))
 ((with_reducible apply W.seq);repeat (first|(with_reducible apply W.block)))
 ((with_reducible apply W.seq);repeat (first|refine Y5o ?_|((with_reducible apply (RS.loadNB (vs:=funcDC d none 0 0 (ptrC bb))));(iterate 3 exact rfl);exact hfm;exact s0.dom _ _ hfm;exact hln;exact htk)|refine Y7 ?_|refine Y2 ?_|refine Y9 ?_|refine Y0 ?_|refine Y1 ?_|refine Ym ?_))
 refine W.absorbX fun B2 π2 a2=>?_
 have h3m:B2.m (π 0)=some ⟨⟨funcDC d none 0 0 (ptrC bb)⟩,130⟩:=a2.loc 0 (Nat.lt_succ_self 0)
 have w2:=c0.upA a2.up
 have U2:=hU.upX (KeptX.of a2.up)
 have hd2:=a2.dom
 generalize π 0=p3 at *
 have hd2':=hd2n
 by_cases hf:fk=0
 ·skip
  ((with_reducible apply W.seq);repeat (fail))
  ((with_reducible apply W.seq);repeat (first|((with_reducible apply (RS.callA (g0:=21)));(iterate 3 exact rfl);exact fun B' hB'=>(by have hck:=cok_tf (w2.old hd2 ⟨hB'.le,hB'.old⟩) (decide_eq_true hf);exact hck))|refine Y16 ?_|refine Y0 ?_|refine Y1 ?_|refine Y1h ?_|refine Y3 ?_))
  ((with_reducible apply W.seq);repeat (first|((with_reducible apply (RS.loadNB (vs:=typeC d.ty none 0)));(iterate 3 exact rfl);exact h3m;exact hd2 _ _ h3m;exact Nat.le_of_ble_eq_true rfl;exact rfl)|((with_reducible apply (RS.callEx (g0:=34)));(iterate 3 exact rfl);intro B3 hB3;have hax:=typ_ex (t:=d.ty) (A:=none) (c:=0) (lo:=0) (h:=B3) (hd1.symm ▸ ht) (.inl ⟨by rw [hd4];rfl,rfl⟩) (ptrC cb);refine ⟨_,hax,?_⟩;rintro v' H3 π3 ⟨tb0,rfl,hte,o3⟩ sp3 hle3)|refine Y1r ?_|refine Y2 ?_|refine Y9 ?_|refine Y0 ?_|refine Y1 ?_|refine Ym ?_))
  refine W.absorbX fun B4 π4 a4=>?_
  have o4:Old B2 B4:=Old.trans (⟨hB3.le,hB3.old⟩:Old B2 B3) (Old.trans o3 ⟨a4.le,a4.old⟩)
  have w4:=w2.old hd2 o4
  have k4:KeptX h B4:=(KeptX.of a2.up).trans (Old.kx o4 hd2)
  have h3m:=Old.kx o4 hd2 _ _ h3m rfl
  have h4m:B4.m (π3 0)=some ⟨⟨intC ⟨sz,sg,false⟩⟩,71⟩:=a4.loc 0 (Nat.le_of_ble_eq_true rfl)
  have hd4':=a4.dom
  have U4:=hU.upX k4
  have hdn:d.name=bMain:=hd2'.trans (eqB_iff.1 hmn)
  have hgl:=hU.gl
  generalize π3 0=p4 at *
  ((with_reducible apply W.seq);repeat (first|((with_reducible apply RS.load1B);(iterate 3 exact rfl);exact h3m;exact hd4' _ _ h3m;exact rfl)|((with_reducible apply RS.loadNB);(iterate 3 exact rfl);exact h4m;exact hd4' _ _ h4m;exact Nat.le_of_ble_eq_true rfl;exact rfl)|((with_reducible apply (RS.callA (g0:=39)));(iterate 3 exact rfl);exact fun B' hB'=>resultC_tf _ _ _)|refine Y1r ?_|refine Y0 ?_|refine Y1 ?_|refine Ym ?_))
  ((with_reducible apply W.seq);repeat (fail))
  ((with_reducible apply W.seq);repeat (first|((with_reducible apply RS.load1B);(iterate 3 exact rfl);first|exact h3m;exact hd4' _ _ h3m;exact rfl|exact w4.c;exact hd4' _ _ w4.c;exact rfl|exact U4.m;exact hd4' _ _ U4.m;exact rfl)|((with_reducible apply (RS.callB (g0:=36)));(iterate 3 exact rfl);exact fun H hH=>(by have hck:=taken_tf (s:=d.name) (n:=gs.length) (w4.upA fun i b hb=>(hH i (hd4' _ _ hb)).trans hb) (U4.upX (KeptX.of fun i b hb=>(hH i (hd4' _ _ hb)).trans hb)) (by omega) (fun d' hd'=>(by rw [hdn];exact hno _ (List.mem_of_mem_take hd'))) (by rw [hdn];rfl) (by omega);exact hck);exact Nm_free (bnd_bool _ _))|refine Yy ?_|refine Y0 ?_|refine Y1 ?_|refine Y1h ?_|refine Y3 ?_))
  ((with_reducible apply W.seq);repeat (first|refine Y2 ?_|refine Y9 ?_|refine Ya ?_|refine Y0 ?_|refine Y1 ?_|refine Ym ?_))
  refine W.absorbX fun B5 π5 a5=>?_
  have w5:=w4.upA a5.up
  have k5:=k4.trans (Absb.kx a5)
  have h3m:=a5.up _ _ h3m
  have h4m:=a5.up _ _ h4m
  have h5m:B5.m (π4 0)=some ⟨⟨[.int .i64 5,.int .i64 0,.bool false,.bool false,.pointer none,.int .i64 0,.int .i64 0,.slice none 0 0,ptrC p4]⟩,71⟩:=a5.loc 0 (Nat.lt_succ_self 0)
  have hd5':=a5.dom
  have hpn:=hd5' _ _ w5.p
  have hpw:=w5.pw
  have hmn2:eqB d.name ⟨#[109,97,105,110]⟩=true:=by rw [hdn];exact eqB_iff.2 rfl
  generalize π4 0=p5 at *
  obtain ⟨w6,k6⟩:=w5.rep (v':=(⟨fk,fa,gl,data,ret,[],[],0⟩:CS)) (Fs':=.slice none 0 0) (mn':=0) (B':=B5.set pb ⟨⟨prC (⟨cb,ub,pb,tb,gb,fb0,lb,rb0,none,0,fp0⟩:Pl) (.slice none 0 0) 0 (⟨fk,fa,gl,data,ret,[],[],0⟩:CS)⟩,53⟩) (fun i c hne hi=>(if_neg hne).trans hi) (if_pos rfl) rfl rfl rfl
  have hd6:∀ i b,(B5.set pb ⟨⟨prC (⟨cb,ub,pb,tb,gb,fb0,lb,rb0,none,0,fp0⟩:Pl) (.slice none 0 0) 0 (⟨fk,fa,gl,data,ret,[],[],0⟩:CS)⟩,53⟩).m i=some b→i < B5.n:=chk_dom w5.p hd5'
  have h3k:=k6 _ _ h3m rfl
  have h4k:=k6 _ _ h4m rfl
  have h5k:=k6 _ _ h5m rfl
  have hcp:cb≠pb:=elem_ne w5.c w5.p rfl
  have hfc:∀ k,setL (prC (⟨cb,ub,pb,tb,gb,fb0,lb,rb0,none,0,fp0⟩:Pl) (.slice none 0 0) 0 (⟨fk,fa,gl,data,ret,[],[],0⟩:CS)) 2 [.slice (some ⟨k,0,none⟩) 1 (capOf 14)]=prC (⟨cb,ub,pb,tb,gb,fb0,lb,rb0,none,0,fp0⟩:Pl) (.slice (some ⟨k,0,none⟩) 1 (capOf 14)) 0 (⟨fk,fa,gl,data,ret,[],[],0⟩:CS):=fun _=>rfl
  repeat (first|refine Y4e ?_|refine Y1l ?_|refine Y2z ?_|refine Y23 ?_|((with_reducible apply RS.load1B);(iterate 3 exact rfl);first|exact h3m;exact hd5' _ _ h3m;exact rfl|exact w5.c;exact hd5' _ _ w5.c;exact rfl)|((with_reducible apply RS.binStr);(iterate 4 exact rfl);exact congrArg (fun b=>some (Value.bool b)) hmn2)|((with_reducible apply (RS.storeB (cs':=prC (⟨cb,ub,pb,tb,gb,fb0,lb,rb0,none,0,fp0⟩:Pl) (.slice none 0 0) 0 (⟨fk,fa,gl,data,ret,[],[],0⟩:CS))));(iterate 3 exact rfl);exact w5.p;exact hpn;exact hpw;exact Nat.le_of_ble_eq_true rfl;iterate 3 exact rfl)|((with_reducible apply RS.load1B);(iterate 3 exact rfl);first|exact h3k;exact hd6 _ _ h3k;exact rfl|exact h4k;exact hd6 _ _ h4k;exact rfl)|((with_reducible apply RS.loadNB);(iterate 3 exact rfl);exact h5k;exact hd6 _ _ h5k;exact Nat.le_of_ble_eq_true rfl;exact rfl)|((with_reducible apply RS.load1B);(iterate 3 exact rfl);first|exact w6.c;exact hd6 _ _ w6.c;exact rfl|exact w6.p;exact hd6 _ _ w6.p;exact rfl|exact (if_neg hcp).trans w6.c;exact hd6 _ _ w6.c;exact rfl|exact if_pos rfl;exact hpn;exact rfl)|refine Yi ?_|refine Y2g ?_|((with_reducible apply RS.storeB);(iterate 3 exact rfl);exact w6.p;exact hpn;exact hpw;exact Nat.le_of_ble_eq_true rfl;(iterate 2 exact rfl);exact hfc _)|refine Yy ?_|refine Yc ?_|refine Y4 ?_|refine Yo ?_|refine Y2b ?_|refine Y1q ?_|refine Ya ?_|refine Y0 ?_|refine Y60 ?_|refine Y1 ?_|refine Y5 ?_|refine Y3 ?_|refine Yn ?_)
  refine endsK_normal _ .nil fun B' a=>?_
  obtain ⟨w7,k7⟩:=w6.rep (v':=(⟨fk,fa,gl,data,ret,[],[],0⟩:CS)) (Fs':=.slice (some ⟨π5 1,0,none⟩) 1 (capOf 14)) (mn':=0) (B':=B') (fun i c hne hi=>a.up _ _ ((if_neg hne).trans hi)) (a.up _ _ (if_pos rfl)) rfl rfl rfl
  exact ⟨rfl,fun e=>absurd hf e,fun _=>⟨π5 1,p4,d.pos,⟨⟨w7.c,w7.p,w7.t,w7.g,w7.n,w7.cw,w7.pw,w7.nl,w7.gn⟩,(a.loc 1 (Nat.le_of_ble_eq_true rfl)).trans (by rw [hdn];rfl),k7 _ _ h4k rfl,Nat.le_trans a.rw (a.lo 1 (Nat.le_of_ble_eq_true rfl)),rfl,rfl,rfl,rfl,rfl⟩,(k5.trans k6).trans k7⟩⟩
 ·repeat (first|refine Y64 ?_|((with_reducible apply (RS.callA (g0:=21)));(iterate 3 exact rfl);exact fun B' hB'=>(by have hck:=cok_tf (w2.old hd2 ⟨hB'.le,hB'.old⟩) (decide_eq_false hf);exact hck))|refine Y16 ?_|refine Y0 ?_|(with_reducible first|apply W.seq|apply W.ret|apply thenK_n|apply thenK_r|apply blockK_r)|refine Y1 ?_|refine Y5 ?_)
  exact endsK_ret _ .nil fun B' a=>⟨rfl,fun _ i b hb=>a.up _ _ (a2.up _ _ hb),fun e=>absurd e hf⟩
end
end Go.Proofs.YtgpigfcagppohaaGreatDoor
