/-
  What the functions that the law reaches compute,told by plain data;it holds of programs that pass the check of right form and are light.
-/
import Derived.Test.YtgpigfcagppohaaGreatDoorR3
import Derived.Test.YtgpigfcagppohaaGreatDoorR35
import Derived.Test.YtgpigfcagppohaaGreatDoorS1
import Derived.Test.YtgpigfcagppohaaGreatDoorS2
set_option linter.unusedVariables false
set_option linter.unusedSimpArgs false
namespace Go.Proofs.YtgpigfcagppohaaGreatDoor
open Go.AH
attribute [local irreducible] W RS WR
theorem globalsM_keep:∀ {L:List DeclS} {st st':CS},globalsM L st=some st'→st'.nm=st.nm∧st'.lc=st.lc∧st'.depth=st.depth
 | [],st,st',h=>by rw [globalsM] at h;injection h with h;subst h;exact ⟨rfl,rfl,rfl⟩
 | d::L,st,st',h=>by
  rw [globalsM] at h
  split at h
  ·cases h
  obtain ⟨t,_,h⟩:=bind_some' h
  obtain ⟨n,_,h⟩:=bind_some' h
  split at h
  ·simp only [Option.some.injEq] at h
   subst h
   unfold CS.fail
   refine ⟨?_,?_,?_⟩<;>(split<;>rfl)
  ·have:=globalsM_keep h
   exact this
theorem parseT_err {l:List UInt8} {e:Nat × Nat} (h:parseT l=some (.error e)):e.1≠0:=by
 obtain ⟨L,h1,h2,h3⟩:=parseT_iff h
 unfold parseU at h3
 obtain ⟨⟨u1,t1⟩,h4,h5⟩:=Option.map_eq_some_iff.1 h3
 dsimp only at h5
 split at h5
 ·rename_i hf;cases h5;exact hf
 ·cases h5
def CheckQ (r:Except (Nat × Nat) (CS × BodyS)) (v:Value) (h':Hp):Prop:=match r with
 | .error e=>v=.tuple ⟨[.pointer none,.agg ⟨[.int .i64 e.1,.int .i64 e.2]⟩]⟩
 | .ok x=>∃ q fb mn,v=.tuple ⟨[ptrC q.pb,.agg ⟨[.int .i64 0,.int .i64 0]⟩]⟩∧h'.m q.pb=some ⟨⟨prC q (.slice (some ⟨fb,0,none⟩) 1 (capOf 14)) mn x.1⟩,53⟩
theorem checkU_iff {u:UnitS} {r:Except (Nat × Nat) (CS × BodyS)} (h:checkU u=some r):∃ st f l,globalsM u.globals startC=some st∧u.funcs=[f]∧f.params=[]∧eqB f.name bMain=true∧(∀ d∈u.globals,eqB d.name bMain=false)∧typS f.ret=some (.int l)∧l.sec=false ∧
 ((st.fk≠0∧r=.error (st.fk,st.fa))∨(st.fk=0∧∃ b st2,stmtM 1000 1000 f.body { st with ret:=l }=some (b,st2)∧((st2.fk≠0∧r=.error (st2.fk,st2.fa))∨(st2.fk=0∧r=.ok (st2,b))))):=by
 unfold checkU at h
 obtain ⟨st,h1,h⟩:=bind_some' h
 split at h
 ·rename_i f hf
  split at h
  ·cases h
  rename_i hc
  obtain ⟨t,h2,h⟩:=bind_some' h
  split at h
  ·rename_i l
   split at h
   ·cases h
   rename_i hsec
   simp only [not_or,Bool.not_eq_true,ne_eq,Decidable.not_not,Bool.not_eq_false] at hc
   obtain ⟨c1,c2,c3⟩:=hc
   refine ⟨st,f,l,h1,hf,c1,c2,fun d hd=>?_,h2,by simpa using hsec,?_⟩
   ·rw [List.any_eq_false] at c3
    simpa using c3 d hd
   ·split at h
    ·rename_i hk
     simp only [Option.some.injEq] at h
     exact .inl ⟨hk,h.symm⟩
    ·rename_i hk
     obtain ⟨⟨b,st2⟩,h3,h⟩:=bind_some' h
     refine .inr ⟨Classical.byContradiction hk,b,st2,h3,?_⟩
     dsimp only at h
     split at h
     ·rename_i hk2
      simp only [Option.some.injEq] at h
      exact .inl ⟨hk2,h.symm⟩
     ·rename_i hk2
      simp only [Option.some.injEq] at h
      exact .inr ⟨Classical.byContradiction hk2,h.symm⟩
  ·cases h
 ·cases h
section
variable {h:Hp}
theorem check_err {l:List UInt8} {e:Nat × Nat} (hl:l.length≤16384) (hpt:parseT l=some (.error e)) (g:G0 h):EX Tryz.prog 8 [.string ⟨⟨l⟩⟩] h (fun v h'=>CheckQ (.error e) v h'∧KeptX h h'):=by
 refine EX.intro (fn:=Tryz.f8) (c:=(Tryz.f8.body.getD .skip)) Tryz.func8 (by kernel_rfl) Tryz.ntmps8 (by kernel_rfl) fun π s0=>?_
 conv=>arg 2;whnf
 have he:=parseT_err hpt
 have hd0:=s0.dom
 repeat (first|((with_reducible apply (RS.callEx (g0:=16)));(iterate 3 exact rfl);intro B1 hB1;refine ⟨_,parse_ex hl hpt (g.up hB1.up),?_⟩;rintro v H1 π1 ⟨hq,o1⟩ sp1 hle1;obtain rfl:v=.tuple ⟨[.pointer none,.agg ⟨[.int .i64 e.1,.int .i64 e.2]⟩]⟩:=hq;have hrb0:B1.m (π 0)=some ⟨⟨[.int .i64 0,.int .i64 0]⟩,28⟩:=hB1.loc 0 (Nat.lt_succ_self 0);have hrb:=Old.kx o1 hB1.dom _ _ hrb0 rfl;have hlo:h.n≤π 0:=hB1.lo 0 (Nat.lt_succ_self 0);have hrw:rwM≤π 0:=Nat.le_trans hB1.rw hlo)|((with_reducible apply (RS.storeB (cs':=[.int .i64 e.1,.int .i64 e.2])));(iterate 3 exact rfl);exact hrb;exact sp1.dom _ _ hrb;exact hrw;exact Nat.le_of_ble_eq_true rfl;iterate 3 exact rfl)|refine Yu ?_|refine Y6 ?_|refine Y29 ?_|refine Yh ?_|refine Yg ?_|refine Y2 ?_|refine Y9 ?_|refine Y0 ?_|refine Y13 ?_|refine Y1 ?_|refine Y5 ?_)
 refine endsK_ret _ (.cons (.tmp rfl) (.cons (.baseN (vs:=[.int .i64 e.1,.int .i64 e.2]) rfl (by show (if π 0=π 0 then _ else _)=_;rw [if_pos rfl]) (Nat.le_of_ble_eq_true rfl) rfl) .nil)) fun B' a=>⟨rfl,fun i c hi hk=>a.up i c ((if_neg (fun e=>by have:=hd0 _ _ hi;omega)).trans (Old.kx o1 hB1.dom _ _ (hB1.up _ _ hi) hk))⟩
theorem check_ok {l:List UInt8} {u:UnitS} {r:Except (Nat × Nat) (CS × BodyS)} (hl:l.length≤16384) (hpt:parseT l=some (.ok u)) (hc:checkU u=some r) (g:G0 h):EX Tryz.prog 8 [.string ⟨⟨l⟩⟩] h (fun v h'=>CheckQ r v h'∧KeptX h h'):=by
 obtain ⟨st,f,lf,hgl,hu,hp,hmn,hno,ht,hsec,hrest⟩:=checkU_iff hc
 obtain ⟨g1,g2,g3⟩:=globalsM_keep hgl
 have hgn:=parseT_len hpt
 refine EX.intro (fn:=Tryz.f8) (c:=(Tryz.f8.body.getD .skip)) Tryz.func8 (by kernel_rfl) Tryz.ntmps8 (by kernel_rfl) fun π s0=>?_
 conv=>arg 2;whnf
 have hd0:=s0.dom
 ((with_reducible apply W.seq);repeat (first|refine Yw ?_|refine Y9 ?_|refine Y0 ?_|refine Y1 ?_|refine Ym ?_))
 ((with_reducible apply W.seq);repeat (first|((with_reducible apply (RS.callEx (g0:=16)));(iterate 3 exact rfl);intro B1 hB1;refine ⟨_,parse_ex hl hpt (g.up hB1.up),?_⟩;rintro v H1 π1 ⟨⟨ub,ug,gs,uf,fs,rfl,hU⟩,o1⟩ sp1 hle1;have hrb0:B1.m (π 0)=some ⟨⟨[.int .i64 0,.int .i64 0]⟩,28⟩:=hB1.loc 0 (Nat.lt_succ_self 0);have hrb:=Old.kx o1 hB1.dom _ _ hrb0 rfl;have hlo:h.n≤π 0:=hB1.lo 0 (Nat.lt_succ_self 0);have hrw:rwM≤π 0:=Nat.le_trans hB1.rw hlo)|refine Y7 ?_|refine Y29 ?_|refine Y2 ?_|refine Y9 ?_|refine Y0 ?_|refine Y1 ?_|refine Ym ?_))
 ((with_reducible apply W.seq);repeat (fail))
 ((with_reducible apply W.seq);repeat (first|refine Yo ?_|refine Y65 ?_|refine Yh ?_|refine Y0 ?_|refine Y1 ?_|refine Y1h ?_|refine Y3 ?_))
 ((with_reducible apply W.seq);repeat (first|refine Y3a ?_|refine Ya ?_|refine Y0 ?_|refine Y1 ?_|refine Ym ?_))
 refine W.absorbX fun B3 π3 a3=>?_
 have hd3:=a3.dom
 have htB:B3.m (π1 1)=some ⟨⟨[.slice none 0 0]⟩,60⟩:=a3.loc 1 (Nat.le_of_ble_eq_true rfl)
 have hpB:B3.m (π1 2)=some ⟨⟨prC (⟨π1 3,ub,π1 2,π1 1,0,0,0,0,none,0,0⟩:Pl) (.slice none 0 0) (-1) startC⟩,53⟩:=a3.loc 2 (Nat.le_of_ble_eq_true rfl)
 have hcB:B3.m (π1 3)=some (ckB (⟨π1 3,ub,π1 2,π1 1,0,0,0,0,none,0,0⟩:Pl) (.pointer none) startC):=a3.loc 3 (Nat.le_of_ble_eq_true rfl)
 have hcw:rwM≤π1 3:=Nat.le_trans a3.rw (a3.lo 3 (Nat.le_of_ble_eq_true rfl))
 have hpw:rwM≤π1 2:=Nat.le_trans a3.rw (a3.lo 2 (Nat.le_of_ble_eq_true rfl))
 have kH3:KeptX H1 B3:=Absb.kx a3
 generalize π1 3=cb at *
 generalize π1 2=pb at *
 generalize π1 1=tb at *
 have w3:ChkW B3 (⟨cb,ub,pb,tb,0,0,0,0,none,0,0⟩:Pl) (.pointer none) (.slice none 0 0) (-1) startC:=⟨hcB,hpB,htB,fun e=>absurd rfl e,.inl ⟨rfl,rfl,rfl⟩,hcw,hpw,Nat.zero_le _,Nat.zero_le _⟩
 have U3:=hU.upX kH3
 rcases hrest with ⟨hf,rfl⟩|⟨hf,b,st2,h2,hrest⟩
 ·repeat (first|((with_reducible apply (RS.callA (g0:=17)));(iterate 3 exact rfl);exact fun B' hB'=>(by have hck:=structs_tf (w3.old hd3 ⟨hB'.le,hB'.old⟩) (U3.upX (Absb.kx hB'));exact hck))|((with_reducible apply (RS.callEx (g0:=18)));(iterate 3 exact rfl);intro B4 hB4;have hax:=globals_ex hgl rfl rfl (Nat.zero_le _) (w3.old hd3 ⟨hB4.le,hB4.old⟩) (U3.upX (Absb.kx hB4));refine ⟨_,hax,?_⟩;rintro v H4 π4 ⟨rfl,gb,w4,k4⟩ sp4 hle4;have kH4:KeptX H1 H4:=kH3.trans ((Absb.kx hB4).trans k4);have U4:=hU.upX kH4)|refine Y4e ?_|refine Y1l ?_|refine Y23 ?_|((with_reducible apply (RS.callA (g0:=20)));(iterate 3 exact rfl);exact fun B' hB'=>(by have hck:=inits_tf (w5.old sp5.dom ⟨hB'.le,hB'.old⟩) (U5.upX (Absb.kx hB')) hgn;exact hck))|((with_reducible apply (RS.callEx (g0:=19)));(iterate 3 exact rfl);intro B5 hB5;have hax:=signatures_ex hu hp hmn hno ht hsec hgn rfl rfl g1 g3 g2 (w4.old sp4.dom ⟨hB5.le,hB5.old⟩) (U4.upX (Absb.kx hB5));refine ⟨_,hax,?_⟩;rintro v H5 π5 ⟨rfl,hs1,hs2⟩ sp5 hle5;have w5:=(w4.old sp4.dom ⟨hB5.le,hB5.old⟩).upA (hs1 hf);have kH5:KeptX H1 H5:=(kH4.trans (Absb.kx hB5)).trans (KeptX.of (hs1 hf));have U5:=hU.upX kH5)|refine Y4v ?_|((with_reducible apply (RS.callA (g0:=21)));(iterate 3 exact rfl);exact fun B' hB'=>(by have hck:=cok_tf (w5.old sp5.dom ⟨hB'.le,hB'.old⟩) (decide_eq_false hf);exact hck))|((with_reducible apply (RS.loadNB (vs:=[.int .i64 st.fk,.int .i64 st.fa])));(iterate 3 exact rfl);exact w5.c;exact sp5.dom _ _ w5.c;exact Nat.le_of_ble_eq_true rfl;exact rfl)|((with_reducible apply (RS.storeB (cs':=[.int .i64 st.fk,.int .i64 st.fa])));(iterate 3 exact rfl);exact kH5 _ _ hrb rfl;exact sp5.dom _ _ (kH5 _ _ hrb rfl);exact hrw;exact Nat.le_of_ble_eq_true rfl;iterate 3 exact rfl)|refine Y1z ?_|refine Y4 ?_|refine Y0 ?_|(with_reducible first|apply W.seq|apply W.block|apply W.exit|apply W.ret|apply thenK_n|apply thenK_e|apply thenK_r)|refine Y1 ?_|refine Y5 ?_|refine Y3 ?_|refine Yn ?_)
  refine endsK_ret _ (.cons (.tmp rfl) (.cons (.baseN (vs:=[.int .i64 st.fk,.int .i64 st.fa]) rfl (by show (if π 0=π 0 then _ else _)=_;rw [if_pos rfl]) (Nat.le_of_ble_eq_true rfl) rfl) .nil)) fun B' a=>⟨rfl,fun i c hi hk=>a.up i c ((if_neg (fun e=>by have:=hd0 _ _ hi;omega)).trans (kH5 _ _ (Old.kx o1 hB1.dom _ _ (hB1.up _ _ hi) hk) hk))⟩
 ·have hlc0:LcOK { st with ret:=lf }:=fun t ht=>by rw [show ({ st with ret:=lf }:CS).lc=[] from g2] at ht;cases ht
  rcases hrest with ⟨hf2,rfl⟩|⟨hf2,rfl⟩
  ·repeat (first|((with_reducible apply (RS.callA (g0:=17)));(iterate 3 exact rfl);exact fun B' hB'=>(by have hck:=structs_tf (w3.old hd3 ⟨hB'.le,hB'.old⟩) (U3.upX (Absb.kx hB'));exact hck))|((with_reducible apply (RS.callEx (g0:=18)));(iterate 3 exact rfl);intro B4 hB4;have hax:=globals_ex hgl rfl rfl (Nat.zero_le _) (w3.old hd3 ⟨hB4.le,hB4.old⟩) (U3.upX (Absb.kx hB4));refine ⟨_,hax,?_⟩;rintro v H4 π4 ⟨rfl,gb,w4,k4⟩ sp4 hle4;have kH4:KeptX H1 H4:=kH3.trans ((Absb.kx hB4).trans k4);have U4:=hU.upX kH4)|refine Y4e ?_|refine Y1l ?_|refine Y2z ?_|refine Y23 ?_|((with_reducible apply (RS.callEx (g0:=19)));(iterate 3 exact rfl);intro B5 hB5;have hax:=signatures_ex hu hp hmn hno ht hsec hgn rfl rfl g1 g3 g2 (w4.old sp4.dom ⟨hB5.le,hB5.old⟩) (U4.upX (Absb.kx hB5));refine ⟨_,hax,?_⟩;rintro v H5 π5 ⟨rfl,hs1,hs2⟩ sp5 hle5;obtain ⟨fb,rb,fp,pf,k5⟩:=hs2 hf;have w5:=pf.w;have kH5:KeptX H1 H5:=(kH4.trans (Absb.kx hB5)).trans k5;have U5:=hU.upX kH5)|((with_reducible apply (RS.callA (g0:=20)));(iterate 3 exact rfl);exact fun B' hB'=>(by have hck:=inits_tf (w5.old sp5.dom ⟨hB'.le,hB'.old⟩) (U5.upX (Absb.kx hB')) hgn;exact hck))|((with_reducible apply (RS.callEx (g0:=22)));(iterate 3 exact rfl);intro B6 hB6;have hax:=function_ex h2 hf hlc0 hp (⟨w5.old sp5.dom ⟨hB6.le,hB6.old⟩,hB6.up _ _ pf.f,hB6.up _ _ pf.r,pf.fw,pf.na,pf.nc,pf.nm,pf.dp,pf.lc⟩) (U5.upX (Absb.kx hB6)) hu;refine ⟨_,hax,?_⟩;rintro v H6 π6 ⟨rfl,k6,lb,na,nc,w6⟩ sp6 hle6;have kH6:KeptX H1 H6:=(kH5.trans (Absb.kx hB6)).trans k6)|refine Y4v ?_|((with_reducible apply (RS.callA (g0:=21)));(iterate 3 exact rfl);first|exact fun B' hB'=>(by have hck:=cok_tf (w5.old sp5.dom ⟨hB'.le,hB'.old⟩) (decide_eq_true hf);exact hck)|exact fun B' hB'=>(by have hck:=cok_tf (w6.old sp6.dom ⟨hB'.le,hB'.old⟩) (decide_eq_false hf2);exact hck))|((with_reducible apply (RS.loadNB (vs:=[.int .i64 st2.fk,.int .i64 st2.fa])));(iterate 3 exact rfl);exact w6.c;exact sp6.dom _ _ w6.c;exact Nat.le_of_ble_eq_true rfl;exact rfl)|((with_reducible apply (RS.storeB (cs':=[.int .i64 st2.fk,.int .i64 st2.fa])));(iterate 3 exact rfl);exact kH6 _ _ hrb rfl;exact sp6.dom _ _ (kH6 _ _ hrb rfl);exact hrw;exact Nat.le_of_ble_eq_true rfl;iterate 3 exact rfl)|refine Y1z ?_|refine Y6 ?_|refine Y4 ?_|refine Y1q ?_|refine Y0 ?_|(with_reducible first|apply W.seq|apply W.block|apply W.exit|apply W.ret|apply W.skip|apply thenK_n|apply thenK_e|apply thenK_r|apply blockK_n)|refine Y1 ?_|refine Y5 ?_|refine Y3 ?_|refine Yn ?_)
   refine endsK_ret _ (.cons (.tmp rfl) (.cons (.baseN (vs:=[.int .i64 st2.fk,.int .i64 st2.fa]) rfl (by show (if π 0=π 0 then _ else _)=_;rw [if_pos rfl]) (Nat.le_of_ble_eq_true rfl) rfl) .nil)) fun B' a=>⟨rfl,fun i c hi hk=>a.up i c ((if_neg (fun e=>by have:=hd0 _ _ hi;omega)).trans (kH6 _ _ (Old.kx o1 hB1.dom _ _ (hB1.up _ _ hi) hk) hk))⟩
  ·repeat (first|((with_reducible apply (RS.callA (g0:=17)));(iterate 3 exact rfl);exact fun B' hB'=>(by have hck:=structs_tf (w3.old hd3 ⟨hB'.le,hB'.old⟩) (U3.upX (Absb.kx hB'));exact hck))|((with_reducible apply (RS.callEx (g0:=18)));(iterate 3 exact rfl);intro B4 hB4;have hax:=globals_ex hgl rfl rfl (Nat.zero_le _) (w3.old hd3 ⟨hB4.le,hB4.old⟩) (U3.upX (Absb.kx hB4));refine ⟨_,hax,?_⟩;rintro v H4 π4 ⟨rfl,gb,w4,k4⟩ sp4 hle4;have kH4:KeptX H1 H4:=kH3.trans ((Absb.kx hB4).trans k4);have U4:=hU.upX kH4)|refine Y4e ?_|refine Y1l ?_|refine Y2z ?_|refine Y23 ?_|((with_reducible apply (RS.callEx (g0:=19)));(iterate 3 exact rfl);intro B5 hB5;have hax:=signatures_ex hu hp hmn hno ht hsec hgn rfl rfl g1 g3 g2 (w4.old sp4.dom ⟨hB5.le,hB5.old⟩) (U4.upX (Absb.kx hB5));refine ⟨_,hax,?_⟩;rintro v H5 π5 ⟨rfl,hs1,hs2⟩ sp5 hle5;obtain ⟨fb,rb,fp,pf,k5⟩:=hs2 hf;have w5:=pf.w;have kH5:KeptX H1 H5:=(kH4.trans (Absb.kx hB5)).trans k5;have U5:=hU.upX kH5)|((with_reducible apply (RS.callA (g0:=20)));(iterate 3 exact rfl);exact fun B' hB'=>(by have hck:=inits_tf (w5.old sp5.dom ⟨hB'.le,hB'.old⟩) (U5.upX (Absb.kx hB')) hgn;exact hck))|((with_reducible apply (RS.callEx (g0:=22)));(iterate 3 exact rfl);intro B6 hB6;have hax:=function_ex h2 hf hlc0 hp (⟨w5.old sp5.dom ⟨hB6.le,hB6.old⟩,hB6.up _ _ pf.f,hB6.up _ _ pf.r,pf.fw,pf.na,pf.nc,pf.nm,pf.dp,pf.lc⟩) (U5.upX (Absb.kx hB6)) hu;refine ⟨_,hax,?_⟩;rintro v H6 π6 ⟨rfl,k6,lb,na,nc,w6⟩ sp6 hle6;have kH6:KeptX H1 H6:=(kH5.trans (Absb.kx hB6)).trans k6)|((with_reducible apply RS.load1B);(iterate 3 exact rfl);first|exact w5.c;exact sp5.dom _ _ w5.c;exact rfl|exact w5.p;exact sp5.dom _ _ w5.p;exact rfl|exact w6.c;exact sp6.dom _ _ w6.c;exact rfl)|((with_reducible apply (RS.callA (g0:=21)));(iterate 3 exact rfl);first|exact fun B' hB'=>(by have hck:=cok_tf (w5.old sp5.dom ⟨hB'.le,hB'.old⟩) (decide_eq_true hf);exact hck)|exact fun B' hB'=>(by have hck:=cok_tf (w6.old sp6.dom ⟨hB'.le,hB'.old⟩) (decide_eq_true hf2);exact hck))|((with_reducible apply (RS.storeB (cs':=[.int .i64 0,.int .i64 0])));(iterate 3 exact rfl);exact kH6 _ _ hrb rfl;exact sp6.dom _ _ (kH6 _ _ hrb rfl);exact hrw;exact Nat.le_of_ble_eq_true rfl;iterate 3 exact rfl)|refine Y1z ?_|refine Y6 ?_|refine Y4 ?_|refine Y1q ?_|refine Ya ?_|refine Y0 ?_|refine Y1w ?_|refine Y1 ?_|refine Y5 ?_|refine Y3 ?_|refine Yn ?_)
   have hpr:pb≠π 0:=elem_ne w6.p (kH6 _ _ hrb rfl) rfl
   refine endsK_ret _ (.cons (.tmp rfl) (.cons (.baseN (vs:=[.int .i64 0,.int .i64 0]) rfl (by show (if π 0=π 0 then _ else _)=_;rw [if_pos rfl]) (Nat.le_of_ble_eq_true rfl) rfl) .nil)) fun B' a=>⟨⟨_,_,_,rfl,a.up _ _ ((if_neg hpr).trans w6.p)⟩,fun i c hi hk=>a.up i c ((if_neg (fun e=>by have:=hd0 _ _ hi;omega)).trans (kH6 _ _ (Old.kx o1 hB1.dom _ _ (hB1.up _ _ hi) hk) hk))⟩
theorem checkT_ex {l:List UInt8} {r:Except (Nat × Nat) (CS × BodyS)} (hl:l.length≤16384) (hc:checkT l=some r) (g:G0 h):EX Tryz.prog 8 [.string ⟨⟨l⟩⟩] h (fun v h'=>CheckQ r v h'∧KeptX h h'):=by
 unfold checkT at hc
 obtain ⟨x,h1,h2⟩:=bind_some' hc
 cases x with
 | error e =>
  simp only [Option.some.injEq] at h2
  subst h2
  exact check_err hl h1 g
 | ok u=>exact check_ok hl h1 h2 g
theorem check_ex {l:List UInt8} {r:Except (Nat × Nat) (CS × BodyS)} (hl:l.length≤16384) (hc:checkT l=some r) {B:Hp} (g:G0 B):EX Tryz.prog 8 [.string ⟨⟨l⟩⟩] B (fun v h'=>CheckQ r v h'∧Old B h'):=by
 intro s hb
 let k:Nat→Bool:=fun i=>decide (i < B.n) && !(i == 1 || i == 0)
 have hg:G0 (B.hide k):=by
  obtain ⟨⟨m,h4⟩,h5⟩:=g
  exact ⟨⟨m,hide_some.2 ⟨by simp [k],h4⟩⟩,hide_some.2 ⟨by simp [k],h5⟩⟩
 have hp:=checkT_ex hl hc hg
 refine (EX.mono (EX.frame k (fun i hi=>by simp [k] at hi;exact hi.1) hp) ?_) s hb
 rintro v h' s ⟨h6,hq,rfl,hn,hup⟩
 obtain ⟨q1,q2⟩:=hq
 refine ⟨?_,hn,fun i hi=>?_⟩
 ·cases r with
  | error e=>exact q1
  | ok u =>
   obtain ⟨q,fb,mn,e1,e2⟩:=q1
   exact ⟨q,fb,mn,e1,hup _ _ e2⟩
 ·cases hk:k i with
  | true=>exact back_hid hk
  | false =>
   have hc:i=1∨i=0:=by
    simp only [k,Bool.and_eq_false_iff,decide_eq_false_iff_not,Bool.not_eq_false',Bool.or_eq_true,beq_iff_eq] at hk
    rcases hk with h|h
    ·exact absurd hi h
    ·exact h
   obtain ⟨⟨m,h4⟩,h5⟩:=hg
   rw [back_not hk]
   rcases hc with rfl|rfl
   ·rw [q2 _ _ h4 rfl];exact (hide_some.1 h4).2.symm
   ·rw [q2 _ _ h5 rfl];exact (hide_some.1 h5).2.symm
end
end Go.Proofs.YtgpigfcagppohaaGreatDoor
namespace Go.Proofs.YtgpigfcagppohaaGreatDoor
def digF:Nat→Nat→List UInt8
 | 0,_=>[]
 | k+1,n=>if n < 10 then [UInt8.ofNat (48+n)] else digF k (n / 10)++digF k (n % 10)
def digL (n:Nat):List UInt8:=digF 5 n
def bytesL (s:String):List UInt8:=s.toUTF8.data.toList
def lim0:List UInt8:=[105,110,116,32,109,97,105,110,40,41,32,123,32,108,111,110,103,32,97,91]
def lim1:List UInt8:=[93,59,32,114,101,116,117,114,110,32,48,59,32,125]
def limG:List UInt8:=[99,104,97,114,32,97,91,52,48,57,54,93,59,32,99,104,97,114,32,98,91,52,48,57,54,93,59,32,99,104,97,114,32,99,91,52,48,57,54,93,59,32,99,104,97,114,32,100,91,52,48,57,54,93,59,32,99,104,97,114,32,101,91,52,48,57,54,93,59,32,99,104,97,114,32,102,91,52,48,57,54,93,59,32,99,104,97,114,32,103,91,52,48,57,54,93,59,32,99,104,97,114,32,104,91]
def limH:List UInt8:=[93,59,32]
def limI:List UInt8:=[99,104,97,114,32,105,59]
def limM:List UInt8:=[32,105,110,116,32,109,97,105,110,40,41,32,123,32,114,101,116,117,114,110,32,48,59,32,125]
def limA:List UInt8:=[99,104,97,114,32,97,91]
def limB:List UInt8:=[93,59,32,105,110,116,32,109,97,105,110,40,41,32,123,32,114,101,116,117,114,110,32,48,59,32,125]
def limL (m what:Nat):List UInt8 :=
 if what=0 then lim0++digL (511+m)++lim1
 else if what=1 then limG++digL (min (4095+m) 4096)++limH++(if m=2 then limI else [])++limM
 else limA++digL (4095+m)++limB
def fit1:List UInt8:=[115,101,99,114,101,116,32,105,110,116,32,107,59,32,105,110,116,32,109,97,105,110,40,41,32,123,32,114,101,116,117,114,110,32,107,59,32,125]
def fit2:List UInt8:=[105,110,116,32,109,97,105,110,40,41,32,123,32,114,101,116,117,114,110,32,49,59,32,125]
theorem fit1_law:((checkT fit1).map fun r=>match r with
 | .error p=>some p
 | .ok _=>none)=some (some (15,27)):=by decide +kernel
def scA:List UInt8:=[105,110,116,32,120,59,32,105,110,116,32,109,97,105,110,40,41,32,123,32,105,110,116,32,121,32,61,32,120,59,32]
def scB:List UInt8:=[123,32,105,110,116,32,121,32,61,32,121,32,43,32,49,59,32]
def scC:List UInt8:=[105,110,116,32,121,32,61,32,50,59,32]
def scD:List UInt8:=[111,117,116,40,121,41,59,32]
def scE:List UInt8:=[125,32]
def scY:List UInt8:=[114,101,116,117,114,110,32,121,59,32,125]
def scZ:List UInt8:=[114,101,116,117,114,110,32,122,59,32,125]
def scopeR (w:Nat):Nat→List UInt8
 | 0=>scA
 | i+1=>scopeR w i++scB++(if i=w then scC else [])
def scopeL (d w:Nat) (z:Bool):List UInt8:=scopeR w d++scD++repL scE d++(if z then scZ else scY)
open Go.AH
attribute [local irreducible] W RS WR
theorem app_list (a b:List UInt8):(⟨⟨a⟩⟩:ByteArray)++(⟨⟨b⟩⟩:ByteArray)=⟨⟨a++b⟩⟩:=by
 apply ByteArray.ext
 rw [ByteArray.data_append]
 exact List.append_toArray a b
section
variable {P:Program} {ops:Array Oper} {draw:Bool} {rs:List Rk} {l:List Oper} {fl:List (Nat × Value)} {nt:Nat} {h:SH} {K:Fr→SH→Prop} {d:Tmp} {ty:TypeId} {pos:String} {af:Array Edge} {gd:Option (Nat × Bool)}
theorem RS.catL [Pend] {t yt:TypeId} {x y:Operand} {a b:List UInt8} (hw:wantB ops ⟨some d,.binOp .add t x y yt,ty,pos,af,gd⟩ ⟨fl,nt⟩=some true) (hd:Nat.blt d nt=true)
 (hx:Fr.ev ⟨fl,nt⟩ x=some (.string ⟨⟨a⟩⟩)) (hy:Fr.ev ⟨fl,nt⟩ y=some (.string ⟨⟨b⟩⟩)) (hs:a.length+b.length≤100000)
 (hk:RS P ops draw (recP h.k false [] (some [])::rs) l ⟨(d,.string ⟨⟨a++b⟩⟩)::fl,nt⟩ h K):RS P ops draw rs (⟨some d,.binOp .add t x y yt,ty,pos,af,gd⟩::l) ⟨fl,nt⟩ h K:=by
 rw [← app_list] at hk
 exact RS.strAdd hw hd hx hy (by show a.length+b.length≤_;omega) hk
end
def repB (s:List UInt8):Nat→List UInt8
 | 0=>[]
 | k+1=>repB s k++s
instance:TyP Tryz.prog 28 [.int .i64,.int .i64]:=⟨by kernel_rfl⟩
theorem fit1_check:checkT fit1=some (.error (15,27)):=by
 have h:=fit1_law
 cases hc:checkT fit1 with
 | none=>rw [hc] at h;cases h
 | some r =>
  rw [hc] at h
  cases r with
  | error p =>
   have h:some (some p)=some (some (15,27)):=h
   rw [Option.some.inj (Option.some.inj h)]
  | ok x=>exact absurd h (by simp)
theorem fit2_ok:((checkT fit2).map fun r=>match r with
 | .error _=>false
 | .ok _=>true)=some true:=by decide +kernel
theorem fit2_check:∃ x,checkT fit2=some (.ok x):=by
 have h:=fit2_ok
 cases hc:checkT fit2 with
 | none=>rw [hc] at h;cases h
 | some r =>
  rw [hc] at h
  cases r with
  | error p=>exact absurd h (by simp)
  | ok x=>exact ⟨x,rfl⟩
theorem fit5_tf (h:Hp) (hg:G0 h):TF Tryz.prog 7 ⟨[]⟩ h (.bool true) h:=by
 obtain ⟨x,hx⟩:=fit2_check
 refine TF.exact (fn:=Tryz.f7) (c:=(Tryz.f7.body.getD .skip)) Tryz.func7 (by kernel_rfl) Tryz.ntmps7 (by kernel_rfl) (fun s0=>⟨Nat.le_refl _,by simp,fun i b hb=>⟨s0.dom i b hb,fun u hu=>s0.bd i b hb u hu⟩⟩) fun π s0=>?_
 conv=>arg 2;whnf
 ((with_reducible apply W.seq);repeat (first|refine Yw ?_|refine Y0 ?_|refine Y1 ?_|refine Ym ?_))
 ((with_reducible apply W.seq);repeat (first|((with_reducible apply (RS.callEx (g0:=8)));(iterate 3 exact rfl);intro B1 hB1;have hax:=check_ex (l:=fit1) (by decide) fit1_check (hg.up hB1.up);refine ⟨_,hax,?_⟩;rintro v H1 π1 ⟨hq1,o1⟩ sp1 hle1;obtain rfl:v=.tuple ⟨[.pointer none,.agg ⟨[.int .i64 15,.int .i64 27]⟩]⟩:=hq1)|refine Y7 ?_|refine Y29 ?_|refine Y2 ?_|refine Y9 ?_|refine Y0 ?_|refine Y1 ?_|refine Ym ?_))
 have hup1:∀ i c,h.m i=some c→H1.m i=some c:=fun i c hi=>(o1.2 i (hB1.dom _ _ (hB1.up _ _ hi))).trans (hB1.up _ _ hi)
 repeat (first|((with_reducible apply (RS.callEx (g0:=8)));(iterate 3 exact rfl);intro B2 hB2;have hax:=check_ex (l:=fit2) (by decide) hx ((hg.up hup1).up hB2.up);refine ⟨_,hax,?_⟩;rintro v H2 π2 ⟨⟨q,fb,mn,rfl,hpm⟩,o2⟩ sp2 hle2;have hup2:∀ i c,B2.m i=some c→H2.m i=some c:=(fun i c hi=>(o2.2 i (hB2.dom _ _ hi)).trans hi);have h2m:H2.m (π1 0)=some ⟨⟨[.int .i64 15,.int .i64 27]⟩,28⟩:=hup2 _ _ (hB2.loc 0 (Nat.lt_succ_self 0)))|((with_reducible apply (RS.loadNB (vs:=[.int .i64 15,.int .i64 27])));(iterate 3 exact rfl);exact h2m;exact sp2.dom _ _ h2m;exact Nat.le_of_ble_eq_true rfl;exact rfl)|((with_reducible apply RS.load1B);(iterate 3 exact rfl);exact hpm;exact sp2.dom _ _ hpm;exact rfl)|((with_reducible apply (RS.eqlAgg (b:=true)));iterate 5 exact rfl)|refine Y1c ?_|refine Yd ?_|refine Y6 ?_|refine Yo ?_|((with_reducible first|apply RS.extract|apply RS.build);iterate 4 exact rfl)|refine Yh ?_|refine Y2 ?_|refine Y9 ?_|refine Y0 ?_|refine Yq ?_|refine Y1 ?_)
 exact endsK_ret _ (.cons (.tmp rfl) .nil) fun B' a=>⟨rfl,fun i c hi=>a.up _ _ (hup2 _ _ (hB2.up _ _ (hup1 _ _ hi)))⟩
end Go.Proofs.YtgpigfcagppohaaGreatDoor
