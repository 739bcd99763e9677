/-
  What the functions that the law reaches compute,told by plain data;it holds of programs that pass the check of right form and are light.
-/
import Derived.Test.YtjhloakacicdiaaDoorR2
import Derived.Test.YtjhloakacicdiaaDoorS1
import Derived.Test.YtjhloakacicdiaaDoorS2
set_option linter.unusedVariables false
set_option linter.unusedSimpArgs false
namespace Go.Proofs.YtjhloakacicdiaaDoor
open Go.AH
attribute [local irreducible] W RS
theorem right_tf (p:ProgS) (f:FuncS) (x:InsS) (pb:Nat) (pe:TypeId) (P1:Option Addr) (d1:Nat) (P2:Option Addr) (d2:Nat) (fb fo:Nat) (fcs:List Value) (fe:TypeId) (F1:Option Addr) (c1:Nat) (F2:Option Addr) (c2:Nat) (F3:Option Addr) (c3:Nat) (A:Option Addr) (c:Nat) (h:Hp)
 (hp:ProgAt h pb p pe P1 d1 P2 d2) (hf:FuncAt h fb fo f fcs fe F1 c1 F2 c2 F3 c3) (hl:SlAt h A 2 x.args argR) (hn:x.args.length≤1000000000) :
 TF Tryd.prog 63 ⟨[.pointer (some ⟨pb,0,none⟩),.pointer (some ⟨fb,fo,none⟩),.agg ⟨insC x A c⟩]⟩ h (.bool (rightS p f x)) h:=by
 by_cases h28:x.op=28
 ·exact right28_tf p f x pb pe P1 d1 P2 d2 fb fo fcs fe F1 c1 F2 c2 F3 c3 A c h hp hf hl (by omega) h28
 by_cases h29:x.op=29
 ·exact right29_tf p f x pb pe P1 d1 P2 d2 fb fo fcs fe F1 c1 F2 c2 F3 c3 A c h hp hf hl hn h29
 by_cases h2:twoS x.op=true∨x.op=27
 ·exact right2_tf p f x pb pe P1 d1 P2 d2 fb fo fcs fe F1 c1 F2 c2 F3 c3 A c h hp hf hl hn h2
 by_cases h0:23≤x.op∧x.op≤25
 ·exact right0_tf p f x pb pe P1 d1 P2 d2 fb fo fcs fe F1 c1 F2 c2 F3 c3 A c h hp hf hl hn h0
 ·refine right1_tf p f x pb pe P1 d1 P2 d2 fb fo fcs fe F1 c1 F2 c2 F3 c3 A c h hp hf hl hn ?_ h0 ?_
  ·cases hh:twoS x.op with
   | false=>rfl
   | true=>exact absurd (.inl hh) h2
  ·intro hc
   have:x.op=27∨x.op=28∨x.op=29:=by omega
   rcases this with e|e|e
   ·exact h2 (.inr e)
   ·exact h28 e
   ·exact h29 e
def partN (nf:Nat) (x:PartS):Option Int :=
 if x.kind=0 then some x.data.length
 else if x.kind=1 then (if x.n < 0∨(nf:Int)≤x.n then none else some 8)
 else if x.kind=2∨x.kind=3 then some x.n else none
def partsS (nf:Nat):List PartS→Int→Bool
 | [],left=>left == 0
 | x::l,left=>match partN nf x with
  | none=>false
  | some n=>if n < 0∨left < n then false else partsS nf l (left - n)
def placedS (p:ProgS) (g:GlobS):Bool:=decide (0≤g.place) && decide (0≤g.size) && decide (g.size≤p.data) && decide (g.place≤p.data - g.size) && partsS p.funcs.length g.parts g.size
theorem placed_tf (p:ProgS) (g:GlobS) (pb:Nat) (pe:TypeId) (P1:Option Addr) (d1:Nat) (P2:Option Addr) (d2:Nat) (A:Option Addr) (c:Nat) (h:Hp) (hp:h.m pb=some ⟨⟨progC p P1 d1 P2 d2⟩,pe⟩) (hl:SlAt h A 3 g.parts (partR h)) (hn:g.parts.length≤1000000000000000)
 (hd0:0≤p.data∧p.data≤1000000000) (hok:∀ x∈g.parts,fitI x.n∧x.data.length≤1000000000000000) :
 TF Tryd.prog 62 ⟨[.pointer (some ⟨pb,0,none⟩),.agg ⟨globC g A c⟩]⟩ h (.bool (placedS p g)) h:=by
 refine TF.dom fun hd=>?_
 have hpn:=hd _ _ hp
 refine TF.still (fn:=Tryd.f62) (c:=(Tryd.f62.body.getD .skip)) Tryd.func62 (by kernel_rfl) Tryd.ntmps62 (by kernel_rfl) (by simp) ?_
 conv=>arg 2;whnf
 repeat' (first|((with_reducible apply RS.load1B);(iterate 3 exact rfl);exact hp;exact hpn;exact rfl)|refine Y1o ?_|refine Yk ?_|refine Yb ?_|refine Ym ?_|refine Yu ?_|refine Yt ?_|refine Y7 ?_|refine Yn ?_|refine Y0 ?_|refine Y2h ?_|refine Y1 ?_|refine Y5 ?_|((refine YD ?_ ?_)<;>intro _)|((refine YG ?_ ?_)<;>intro _)|((refine YC ?_ ?_)<;>intro _)|((refine YN ?_ ?_)<;>intro _))
 rotate_left 4
 ·refine W.loop (X:=Nat × Int) (fun π x=>[(0,.pointer (some ⟨pb,0,none⟩)),(5,.int .i64 x.2),(41,.slice A g.parts.length c),(42,.int .i64 g.parts.length),(43,.int .i64 x.1)]) (fun _=>h) (fun π x=>[]) (fun x=>x.1≤g.parts.length∧0≤x.2∧x.2≤g.size∧partsS p.funcs.length g.parts g.size=partsS p.funcs.length (g.parts.drop x.1) x.2) (fun x=>g.parts.length - x.1) [] (0,g.size) ⟨Nat.zero_le _,by simp only;omega,Int.le_refl _,rfl⟩ (by (refine FitL.mk ?_ ?_ ?_ ?_<;>(repeat' (first|exact trivial|exact rfl|apply And.intro));done)) ?_
  intro π x hI
  obtain ⟨i,left⟩:=x
  obtain ⟨hi,hl0,hl1,hI⟩:=hI
  dsimp only at hi hl0 hl1 hI ⊢
  by_cases hlt:i < g.parts.length
  ·obtain ⟨x,hx⟩:∃ x,g.parts[i]?=some x:=⟨_,List.getElem?_eq_getElem hlt⟩
   obtain ⟨xb,xo,xcs,xe,rfl,hB,hBl,hBv⟩:=hl.get i x hx
   have hBn:=hd _ _ hB
   obtain ⟨A',c',hBv,_⟩:=hBv
   obtain ⟨hfx,hdx⟩:=hok x (List.mem_of_getElem? hx)
   have hdr:g.parts.drop i=x::g.parts.drop (i+1):=by
    rw [List.drop_eq_getElem_cons hlt]
    rw [List.getElem?_eq_getElem hlt] at hx
    injection hx with hx
    rw [hx]
   rw [hdr,partsS] at hI
   unfold fitI at hfx
   repeat' (first|refine Ya ?_|refine Y40 ?_|((with_reducible apply RS.load1B);(iterate 3 exact rfl);exact hp;exact hpn;exact rfl)|refine Yj ?_|refine Yk ?_|refine Yb ?_|refine Y3 ?_|refine Y2 ?_|refine Ym ?_|refine Yd ?_|refine Yu ?_|refine Yt ?_|refine Y7 ?_|refine Y4 ?_|refine Yf ?_|refine Yn ?_|refine Y0 ?_|refine Y1v ?_|refine Y1 ?_|refine Y5 ?_|((refine YD ?_ ?_)<;>intro _)|((refine YG ?_ ?_)<;>intro _)|((refine YC ?_ ?_)<;>intro _)|((refine YN ?_ ?_)<;>intro _))
   all_goals simp only [gt_iff_lt,ge_iff_le,Int.not_lt,Int.not_le] at *
   all_goals first
    | (refine endsK_ret _ (.cons (.tmp rfl) .nil) ⟨rfl, ?_⟩
       have hz:partsS p.funcs.length g.parts g.size=false:=(by
        first
         | (rw [hI];unfold partN;rw [if_neg (by assumption),if_pos (by assumption),if_neg (by omega)];simp only;rw [if_pos (by omega)])
         | (rw [hI];unfold partN;simp [*]<;>omega))
       simp only [resultOf,Value.bool.injEq,placedS,hz,Bool.and_false])
    | exact roundK_n (i+1,left - x.data.length) [] rfl rfl ⟨by simp only;omega,by simp only;omega,by simp only;omega,by rw [hI];unfold partN;rw [if_pos (by assumption)];simp only;rw [if_neg (by omega)]⟩ (by simp only;omega) (by (refine FitL.mk ?_ ?_ ?_ ?_<;>(repeat' (first|exact trivial|exact rfl|apply And.intro));done))
    | exact roundK_n (i+1,left - 8) [] rfl rfl ⟨by simp only;omega,by simp only;omega,by simp only;omega,by rw [hI];unfold partN;rw [if_neg (by assumption),if_pos (by assumption),if_neg (by omega)];simp only;rw [if_neg (by omega)]⟩ (by simp only;omega) (by (refine FitL.mk ?_ ?_ ?_ ?_<;>(repeat' (first|exact trivial|exact rfl|apply And.intro));done))
    | exact roundK_n (i+1,left - x.n) [] rfl rfl ⟨by simp only;omega,by simp only;omega,by simp only;omega,by rw [hI];unfold partN;rw [if_neg (by assumption),if_neg (by assumption),if_pos (by omega)];simp only;rw [if_neg (by omega)]⟩ (by simp only;omega) (by (refine FitL.mk ?_ ?_ ?_ ?_<;>(repeat' (first|exact trivial|exact rfl|apply And.intro));done))
    | trace_state
  ·repeat (first|refine Yh ?_|refine Y2 ?_|refine Ym ?_|refine Y0 ?_|refine Y1r ?_|refine Y1 ?_|refine Y6 ?_|refine Yl ?_)
   refine endsK_ret _ (.cons (.tmp rfl) .nil) ⟨rfl,?_⟩
   rw [List.drop_eq_nil_of_le (by omega),partsS] at hI
   simp only [resultOf,Value.bool.injEq,placedS,hI]
   rw [Bool.eq_iff_iff]
   simp
   omega
 all_goals refine endsK_ret _ (.cons (.tmp rfl) .nil) ⟨rfl,?_⟩
 all_goals simp only [resultOf,Value.bool.injEq,placedS]
 all_goals (rw [Bool.eq_iff_iff];simp;omega)
def blockOK (p:ProgS) (f:FuncS) (b:BlockS):Bool:=b.ins.all (rightS p f) && endsS f b.term
def funcOK (p:ProgS) (f:FuncS):Bool:=decide (0≤f.params) && decide (f.params≤f.regs) && decide (f.params≤6) && decide ((f.secret:Int)=f.params) && decide (0 < f.blocks.length) && f.blocks.all (blockOK p f)
def rightP (p:ProgS):Bool:=decide (paramsAt p p.main=some 0) && decide (0≤p.data) && decide (p.data≤32768) && p.globals.all (placedS p) && p.funcs.all (funcOK p)
theorem rightP_no {p:ProgS} (h:rightP p=false):(if rightP p=true then (0:Int) else 50)=50:=by rw [h];rfl
theorem rightP_yes {p:ProgS} (h:rightP p=true):(if rightP p=true then (0:Int) else 50)=0:=by rw [h];rfl
theorem ProgAt.up {h H:Hp} (hu:∀ i b,h.m i=some b→H.m i=some b) {pb:Nat} {p:ProgS} {pe:TypeId} {A1:Option Addr} {c1:Nat} {A2:Option Addr} {c2:Nat} (r:ProgAt h pb p pe A1 c1 A2 c2):ProgAt H pb p pe A1 c1 A2 c2 :=
 ⟨hu _ _ r.m,r.fs.mono hu fun _ _ hh=>funcR_mono hu hh,r.gs.mono hu fun _ _ hh=>globR_mono hu hh⟩
theorem FuncAt.up {h H:Hp} (hu:∀ i b,h.m i=some b→H.m i=some b) {fb fo:Nat} {f:FuncS} {fcs:List Value} {fe:TypeId} {A1:Option Addr} {c1:Nat} {A2:Option Addr} {c2:Nat} {A3:Option Addr} {c3:Nat} (r:FuncAt h fb fo f fcs fe A1 c1 A2 c2 A3 c3):FuncAt H fb fo f fcs fe A1 c1 A2 c2 A3 c3 :=
 ⟨hu _ _ r.m,r.c,r.sl.mono hu fun _ _ hh=>hh,r.bl.mono hu fun _ _ hh=>blockR_mono hu hh⟩
set_option maxRecDepth 100000 in
theorem Right_tf (p:ProgS) (hok:p.ok) (hargs:∀ f∈p.funcs,∀ b∈f.blocks,∀ x∈b.ins,x.args.length≤1000000000) (pb:Nat) (pe:TypeId) (P1:Option Addr) (d1:Nat) (P2:Option Addr) (d2:Nat) (h:Hp) (hp:ProgAt h pb p pe P1 d1 P2 d2) :
 TF Tryd.prog 37 ⟨[.pointer (some ⟨pb,0,none⟩)]⟩ h (.int .i64 (if rightP p=true then 0 else 50)) h:=by
 refine TF.dom fun hd=>?_
 have hpn:=hd _ _ hp.m
 by_cases hr:0≤p.main∧p.main < p.funcs.length
 ·obtain ⟨fm,hfm⟩:∃ g,p.funcs[p.main.toNat]?=some g:=⟨_,List.getElem?_eq_getElem (by omega)⟩
  obtain ⟨mb,mo,mcs,me,rfl,hM,hMl,hMv⟩:=hp.fs.get _ fm hfm
  have hMn:=hd _ _ hM
  obtain ⟨G1,k1,G2,k2,G3,k3,hgc,_,_⟩:=hMv
  have hMc:=take_nth (j:=1) hgc rfl
  have hpa:paramsAt p p.main=some fm.params:=by unfold paramsAt;rw [if_pos hr.1,hfm];rfl
  have hnf:=hok.nfuncs
  have hng:=hok.nglobs
  refine TF.still (fn:=Tryd.f37) (c:=(Tryd.f37.body.getD .skip)) Tryd.func37 (by kernel_rfl) Tryd.ntmps37 (by kernel_rfl) (by simp) ?_
  conv=>arg 2;whnf
  repeat' (first|((with_reducible apply RS.eqPtrNil);iterate 4 exact rfl)|((with_reducible apply RS.load1B);(iterate 3 exact rfl);first|exact hp.m;exact hpn;exact rfl|exact hM;exact hMn;exact hMc)|refine Y4v ?_|refine Yj ?_|refine Yk ?_|refine Yb ?_|refine Y2 ?_|refine Ym ?_|refine Yn ?_|refine Y0 ?_|refine Y2h ?_|refine Y1 ?_|refine Y5 ?_|((refine YD ?_ ?_)<;>intro _)|((refine YG ?_ ?_)<;>intro _)|((refine YC ?_ ?_)<;>intro _)|((refine YN ?_ ?_)<;>intro _))
  rotate_left 3
  ·rename_i hq1 hq2 hq3
   have hp0:fm.params=0:=by simpa using hq1
   have hdat:0≤p.data∧p.data≤1000000000:=by omega
   have hhead:rightP p=(p.globals.all (placedS p) && p.funcs.all (funcOK p)):=by
    unfold rightP
    rw [hpa,hp0,decide_eq_true rfl,decide_eq_true (by omega:0≤p.data),decide_eq_true (by omega:p.data≤32768)]
    simp
   refine W.joinB (X:=Unit) (fun π x=>[(0,.pointer (some ⟨pb,0,none⟩))]) (fun _=>h) (fun π x=>[]) (fun x=>p.globals.all (placedS p)=true) 0 ?_ ?_
   ·refine W.loop (X:=Nat) (fun π i=>[(0,.pointer (some ⟨pb,0,none⟩)),(61,.slice P2 p.globals.length d2),(62,.int .i64 p.globals.length),(63,.int .i64 i)]) (fun _=>h) (fun π i=>[]) (fun i=>i≤p.globals.length∧p.globals.all (placedS p)=(p.globals.drop i).all (placedS p)) (fun i=>p.globals.length - i) [] 0 ⟨Nat.zero_le _,rfl⟩ (by (refine FitL.mk ?_ ?_ ?_ ?_<;>(repeat' (first|exact trivial|exact rfl|apply And.intro));done)) ?_
    intro π i hI
    obtain ⟨hi,hI⟩:=hI
    dsimp only at hi hI ⊢
    by_cases hlt:i < p.globals.length
    ·obtain ⟨g,hg⟩:∃ g,p.globals[i]?=some g:=⟨_,List.getElem?_eq_getElem hlt⟩
     obtain ⟨gb,go,gcs,ge,rfl,hG,hGl,hGv⟩:=hp.gs.get i g hg
     have hGn:=hd _ _ hG
     obtain ⟨A',c',hGv,hGs⟩:=hGv
     have hgm:=hok.globs g (List.mem_of_getElem? hg)
     have hgn:=hgm.nparts
     have hgok:∀ x∈g.parts,fitI x.n∧x.data.length≤1000000000000000:=fun x hx=>⟨(hgm.parts x hx).n,by have:=(hgm.parts x hx).ndata;omega⟩
     rw [all_drop hg] at hI
     repeat' (first|refine Ya ?_|refine Y1t ?_|((with_reducible apply RS.callR true []);(iterate 3 exact rfl);exact fun H hH=>placed_tf p g pb pe _ d1 _ d2 _ _ H (sees_up hH hd _ _ hp.m) (hGs.mono (sees_up hH hd) fun _ _ hh=>partR_mono (sees_up hH hd) hh) (by omega) hdat hgok;exact Nm_free (by simp))|refine Y4f ?_|refine Y3 ?_|refine Yd ?_|refine Y8 ?_|refine Y4 ?_|refine Yf ?_|refine Y0 ?_|refine Y3m ?_|refine Y1 ?_|refine Y5 ?_|((refine YD ?_ ?_)<;>intro _)|((refine YG ?_ ?_)<;>intro _)|((refine YC ?_ ?_)<;>intro _)|((refine YN ?_ ?_)<;>intro _))
     ·refine endsK_ret _ (.cons (.tmp rfl) .nil) ⟨rfl,?_⟩
      have hz:placedS p g=false:=by simpa using ‹(!placedS p g)=true›
      rw [hz,Bool.false_and] at hI
      rw [rightP_no (by rw [hhead,hI,Bool.false_and])];rfl
     ·have hz:placedS p g=true:=by simpa using ‹(!placedS p g)=false›
      rw [hz,Bool.true_and] at hI
      exact roundK_n (i+1) [] rfl rfl ⟨by omega,hI⟩ (by omega) (by (refine FitL.mk ?_ ?_ ?_ ?_<;>(repeat' (first|exact trivial|exact rfl|apply And.intro));done))
    ·repeat (first|refine Y2 ?_|refine Y0 ?_|(with_reducible first|apply W.seq|apply W.exit|apply thenK_n|apply thenK_e|apply roundK_e)|refine Y1 ?_|refine Y6 ?_|refine Yl ?_)
     rw [List.drop_eq_nil_of_le (by omega)] at hI
     exact joinK_n () [] rfl rfl hI (by (refine FitL.mk ?_ ?_ ?_ ?_<;>(repeat' (first|exact trivial|exact rfl|apply And.intro));done))
   ·intro π x hgl
    rw [hgl,Bool.true_and] at hhead
    repeat (first|refine Y3g ?_|refine Y2a ?_|refine Y0 ?_|refine Y1e ?_|refine Y1 ?_)
    refine W.loop (X:=Nat) (fun π i=>[(0,.pointer (some ⟨pb,0,none⟩)),(76,.int .i64 p.funcs.length),(77,.int .i64 i)]) (fun _=>h) (fun π i=>[]) (fun i=>i≤p.funcs.length∧p.funcs.all (funcOK p)=(p.funcs.drop i).all (funcOK p)) (fun i=>p.funcs.length - i) [] 0 ⟨Nat.zero_le _,rfl⟩ (by (refine FitL.mk ?_ ?_ ?_ ?_<;>(repeat' (first|exact trivial|exact rfl|apply And.intro));done)) ?_
    intro π i hI
    obtain ⟨hi,hI⟩:=hI
    dsimp only at hi hI ⊢
    by_cases hlt:i < p.funcs.length
    ·obtain ⟨f,hf⟩:∃ f,p.funcs[i]?=some f:=⟨_,List.getElem?_eq_getElem hlt⟩
     obtain ⟨fb,fo,fcs,fe,hPe,hF,hFl,hFv⟩:=hp.fs.get i f hf
     injection hPe with hPe
     injection hPe with hPe1 hPe2
     subst hPe1
     subst hPe2
     have hFn:=hd _ _ hF
     obtain ⟨F1,c1,F2,c2,F3,c3,hFv,hFsl,hFbl⟩:=hFv
     have hfat:FuncAt h mb (mo+i * 6) f fcs fe F1 c1 F2 c2 F3 c3:=⟨hF,fun j v hv=>take_nth hFv hv,hFsl,hFbl⟩
     have hfm:=hok.funcs f (List.mem_of_getElem? hf)
     have hnb:=hfm.nblocks
     have hnsec:=hfm.nsec
     rw [all_drop hf] at hI
     have hfno:funcOK p f=false→rightP p=false:=fun hz=>by rw [hz,Bool.false_and] at hI;rw [hhead,hI]
     repeat' (first|refine Y3g ?_|refine Ya ?_|((with_reducible apply RS.load1B);(iterate 3 exact rfl);exact hF;exact hFn;(first|exact hfat.c 1 _ rfl|exact hfat.c 2 _ rfl|exact hfat.c 3 _ rfl|exact hfat.c 5 _ rfl))|refine Yj ?_|refine Yk ?_|refine Yb ?_|refine Y3 ?_|refine Ym ?_|refine Yt ?_|refine Yn ?_|refine Y0 ?_|(with_reducible first|apply W.seq|apply W.block|apply W.ret|apply W.skip|apply thenK_n|apply thenK_r|apply blockK_r|apply roundK_r)|refine Y1 ?_|refine Y5 ?_|((refine YD ?_ ?_)<;>intro _)|((refine YG ?_ ?_)<;>intro _)|((refine YC ?_ ?_)<;>intro _)|((refine YN ?_ ?_)<;>intro _))
     rotate_left 5
     ·rename_i v1 v2 v3 v4 v5
      have v4':(f.secret:Int)=f.params:=by simpa using v4
      have hfh:funcOK p f=f.blocks.all (blockOK p f):=by
       unfold funcOK
       rw [decide_eq_true (by omega:0≤f.params),decide_eq_true (by omega:f.params≤f.regs),decide_eq_true (by omega:f.params≤6),decide_eq_true v4',decide_eq_true (by omega:0 < f.blocks.length)]
       simp
      refine W.loop (X:=Nat) (fun π j=>[(0,.pointer (some ⟨pb,0,none⟩)),(76,.int .i64 p.funcs.length),(77,.int .i64 i),(6,.pointer (some ⟨mb,mo+i * 6,none⟩)),(132,.slice F3 f.blocks.length c3),(133,.int .i64 f.blocks.length),(134,.int .i64 j)]) (fun _=>h) (fun π j=>[]) (fun j=>j≤f.blocks.length∧f.blocks.all (blockOK p f)=(f.blocks.drop j).all (blockOK p f)) (fun j=>f.blocks.length - j) [] 0 ⟨Nat.zero_le _,rfl⟩ (by (refine FitL.mk ?_ ?_ ?_ ?_<;>(repeat' (first|exact trivial|exact rfl|apply And.intro));done)) ?_
      intro π j hJ
      obtain ⟨hj,hJ⟩:=hJ
      dsimp only at hj hJ ⊢
      by_cases hlj:j < f.blocks.length
      ·obtain ⟨b,hb⟩:∃ b,f.blocks[j]?=some b:=⟨_,List.getElem?_eq_getElem hlj⟩
       obtain ⟨bb,bo,bcs,be,rfl,hB,hBl,hBv⟩:=hFbl.get j b hb
       have hBn:=hd _ _ hB
       obtain ⟨A',c',hBv,hBi⟩:=hBv
       have hbm:=hfm.blocks b (List.mem_of_getElem? hb)
       have hni:=hbm.n
       rw [all_drop hb] at hJ
       have hbno:blockOK p f b=false→rightP p=false:=fun hz=>by rw [hz,Bool.false_and] at hJ;exact hfno (by rw [hfh,hJ])
       repeat (first|refine Ya ?_|refine Y40 ?_|refine Y23 ?_|refine Y3 ?_|refine Y7 ?_|refine Y4 ?_|refine Yf ?_|refine Y0 ?_|refine Y1y ?_|refine Y1 ?_|refine Y5 ?_)
       refine W.joinB (X:=Unit) (fun π _=>[(0,.pointer (some ⟨pb,0,none⟩)),(76,.int .i64 p.funcs.length),(77,.int .i64 i),(6,.pointer (some ⟨mb,mo+i * 6,none⟩)),(132,.slice (some ⟨bb,bo,none⟩) f.blocks.length c3),(133,.int .i64 f.blocks.length),(134,.int .i64 j),(8,.pointer (some ⟨π 0,0,none⟩))]) (fun _=>h) (fun π _=>[(0,some ⟨⟨blockC b A' c'⟩,50⟩)]) (fun _=>b.ins.all (rightS p f)=true) 1 ?_ ?_
       ·refine W.loop (X:=Nat) (fun π k=>[(0,.pointer (some ⟨pb,0,none⟩)),(76,.int .i64 p.funcs.length),(77,.int .i64 i),(6,.pointer (some ⟨mb,mo+i * 6,none⟩)),(132,.slice (some ⟨bb,bo,none⟩) f.blocks.length c3),(133,.int .i64 f.blocks.length),(134,.int .i64 j),(8,.pointer (some ⟨π 0,0,none⟩)),(139,.slice A' b.ins.length c'),(140,.int .i64 b.ins.length),(141,.int .i64 k)]) (fun _=>h) (fun π k=>[(0,some ⟨⟨blockC b A' c'⟩,50⟩)]) (fun k=>k≤b.ins.length∧b.ins.all (rightS p f)=(b.ins.drop k).all (rightS p f)) (fun k=>b.ins.length - k) [0] 0 ⟨Nat.zero_le _,rfl⟩ (by (refine FitL.mk ?_ ?_ ?_ ?_<;>(repeat' (first|exact trivial|exact rfl|apply And.intro));done)) ?_
        intro π k hK
        obtain ⟨hk,hK⟩:=hK
        dsimp only at hk hK ⊢
        by_cases hlk:k < b.ins.length
        ·obtain ⟨x,hx⟩:∃ x,b.ins[k]?=some x:=⟨_,List.getElem?_eq_getElem hlk⟩
         obtain ⟨xb,xo,xcs,xe,rfl,hX,hXl,hXv⟩:=hBi.get k x hx
         have hXn:=hd _ _ hX
         obtain ⟨A'',c'',hXv,hXs⟩:=hXv
         have hxn:=hargs f (List.mem_of_getElem? hf) b (List.mem_of_getElem? hb) x (List.mem_of_getElem? hx)
         rw [all_drop hx] at hK
         repeat' (first|refine Ya ?_|refine Y41 ?_|((with_reducible apply RS.callR true []);(iterate 3 exact rfl);exact fun H hH=>right_tf p f x pb pe _ d1 _ d2 mb _ fcs fe F1 c1 F2 c2 _ c3 _ _ H (hp.up (sees_up hH hd)) (hfat.up (sees_up hH hd)) (hXs.mono (sees_up hH hd) fun _ _ hh=>hh) hxn;exact Nm_free (by simp))|refine Y4f ?_|refine Y3 ?_|refine Yd ?_|refine Y8 ?_|refine Y4 ?_|refine Yf ?_|refine Y0 ?_|refine Y3m ?_|refine Y1 ?_|refine Y5 ?_|((refine YD ?_ ?_)<;>intro _)|((refine YG ?_ ?_)<;>intro _)|((refine YC ?_ ?_)<;>intro _)|((refine YN ?_ ?_)<;>intro _))
         ·refine endsK_ret _ (.cons (.tmp rfl) .nil) ⟨rfl,?_⟩
          have hz:rightS p f x=false:=by simpa using ‹(!rightS p f x)=true›
          rw [hz,Bool.false_and] at hK
          rw [rightP_no (hbno (by unfold blockOK;rw [hK,Bool.false_and]))];rfl
         ·have hz:rightS p f x=true:=by simpa using ‹(!rightS p f x)=false›
          rw [hz,Bool.true_and] at hK
          exact roundK_n (k+1) [0] rfl rfl ⟨by omega,hK⟩ (by omega) (by (refine FitL.mk ?_ ?_ ?_ ?_<;>(repeat' (first|exact trivial|exact rfl|apply And.intro));done))
        ·repeat (first|refine Y2 ?_|refine Y0 ?_|(with_reducible first|apply W.seq|apply W.exit|apply thenK_n|apply thenK_e|apply roundK_e)|refine Y1 ?_|refine Y6 ?_|refine Yl ?_)
         rw [List.drop_eq_nil_of_le (by omega)] at hK
         exact joinK_n () [0] rfl rfl hK (by (refine FitL.mk ?_ ?_ ?_ ?_<;>(repeat' (first|exact trivial|exact rfl|apply And.intro));done))
       ·intro π _ hins
        repeat' (first|((with_reducible apply RS.callR true []);(iterate 3 exact rfl);exact fun H hH=>ends_tf f b.term mb _ fcs fe _ c3 H (sees_up hH hd _ _ hF) (hfat.c 3 _ rfl) (hfat.c 5 _ rfl) (by omega);exact Nm_free (by simp))|((with_reducible first|apply RS.move|apply RS.assign|apply RS.not|apply RS.fieldAddr);iterate 3 exact rfl)|refine Yd ?_|refine Y8 ?_|refine Y0 ?_|(with_reducible first|apply W.seq|apply W.ret|apply W.skip|apply thenK_n|apply thenK_r|apply blockK_n|apply blockK_r|apply roundK_r)|refine Y1 ?_|((refine YD ?_ ?_)<;>intro _)|((refine YG ?_ ?_)<;>intro _)|((refine YC ?_ ?_)<;>intro _)|((refine YN ?_ ?_)<;>intro _))
        ·refine endsK_ret _ (.cons (.tmp rfl) .nil) ⟨rfl,?_⟩
         have hz:endsS f b.term=false:=by simpa using ‹(!endsS f b.term)=true›
         rw [rightP_no (hbno (by unfold blockOK;rw [hz,Bool.and_false]))];rfl
        ·have hz:endsS f b.term=true:=by simpa using ‹(!endsS f b.term)=false›
         have hbt:blockOK p f b=true:=by unfold blockOK;rw [hins,hz];rfl
         rw [hbt,Bool.true_and] at hJ
         exact roundK_n (j+1) [] rfl rfl ⟨by omega,hJ⟩ (by omega) (by (refine FitL.mk ?_ ?_ ?_ ?_<;>(repeat' (first|exact trivial|exact rfl|apply And.intro));done))
      ·repeat (first|refine Y25 ?_|refine Y2 ?_|refine Yd ?_|refine Y0 ?_|refine Y3q ?_|refine Y1 ?_|refine Y6 ?_|refine Yl ?_)
       rw [List.drop_eq_nil_of_le (by omega)] at hJ
       rw [hfh,hJ] at hI
       exact roundK_n (i+1) [] rfl rfl ⟨by omega,hI⟩ (by omega) (by (refine FitL.mk ?_ ?_ ?_ ?_<;>(repeat' (first|exact trivial|exact rfl|apply And.intro));done))
     all_goals refine endsK_ret _ (.cons (.tmp rfl) .nil) ⟨rfl,?_⟩
     ·rw [rightP_no (hfno (by unfold funcOK;simp;omega))];rfl
     ·rw [rightP_no (hfno (by unfold funcOK;simp;omega))];rfl
     ·rw [rightP_no (hfno (by unfold funcOK;simp;omega))];rfl
     ·have hne:¬ (f.secret:Int)=f.params:=by simpa using ‹((f.secret:Int) != f.params)=true›
      rw [rightP_no (hfno (by unfold funcOK;rw [decide_eq_false hne];simp))];rfl
     ·have hne:¬ 0 < f.blocks.length:=by omega
      rw [rightP_no (hfno (by unfold funcOK;rw [decide_eq_false hne];simp))];rfl
    ·repeat (first|refine Y15 ?_|refine Y2 ?_|refine Y0 ?_|refine Y1r ?_|refine Y1 ?_|refine Y6 ?_|refine Yl ?_)
     rw [List.drop_eq_nil_of_le (by omega)] at hI
     refine endsK_ret _ (.cons (.tmp rfl) .nil) ⟨rfl,?_⟩
     rw [rightP_yes (by rw [hhead,hI];rfl)];rfl
  all_goals refine endsK_ret _ (.cons (.tmp rfl) .nil) ⟨rfl,?_⟩
  ·have hz:rightP p=false:=by
    unfold rightP;rw [hpa]
    have:fm.params≠0:=by simpa using ‹(fm.params != 0)=true›
    simp [this]
   rw [rightP_no hz];rfl
  ·have hz:rightP p=false:=by unfold rightP;simp;omega
   rw [rightP_no hz];rfl
  ·have hz:rightP p=false:=by unfold rightP;simp;omega
   rw [rightP_no hz];rfl
 ·have hpa:paramsAt p p.main=none:=by
   unfold paramsAt
   split
   ·rw [List.getElem?_eq_none (by omega)];rfl
   ·rfl
  have hz:rightP p=false:=by unfold rightP;rw [hpa];simp
  rw [rightP_no hz]
  refine TF.still (fn:=Tryd.f37) (c:=(Tryd.f37.body.getD .skip)) Tryd.func37 (by kernel_rfl) Tryd.ntmps37 (by kernel_rfl) (by simp) ?_
  conv=>arg 2;whnf
  repeat' (first|((with_reducible apply RS.eqPtrNil);iterate 4 exact rfl)|refine Y3g ?_|refine Yj ?_|refine Yk ?_|refine Yb ?_|refine Y3 ?_|refine Ym ?_|refine Yn ?_|refine Y0 ?_|refine Y1z ?_|refine Y1 ?_|refine Y5 ?_|((refine YD ?_ ?_)<;>intro _)|((refine YG ?_ ?_)<;>intro _)|((refine YC ?_ ?_)<;>intro _)|((refine YN ?_ ?_)<;>intro _))
  all_goals exact endsK_ret _ (.cons (.tmp rfl) .nil) ⟨rfl,rfl⟩
abbrev SetS:=List (BitVec 64)
def bitS (i:Nat):BitVec 64:=1#64 <<< (i % 64)
def emptyS (n:Int):SetS:=List.replicate (((max n 0).toNat+63) / 64) 0
def hasS (s:SetS) (i:Int):Bool:=decide (0≤i) && (match s[i.toNat / 64]? with
 | some w=>w.getLsbD (i.toNat % 64)
 | none=>false)
def putS (s:SetS) (i:Int):SetS:=if 0≤i then s.modify (i.toNat / 64) (· ||| bitS i.toNat) else s
def outS (s:SetS) (i:Int):SetS:=if 0≤i then s.modify (i.toNat / 64) (· &&& ~~~ bitS i.toNat) else s
def joinS:SetS→SetS→SetS
 | w::s,o::t=>(w ||| o)::joinS s t
 | s,[]=>s
 | [],_=>[]
def reachPush (s:SetS) (work:List Int):List Int→SetS × List Int
 | []=>(s,work)
 | k::l=>if hasS s k=true then reachPush s work l else reachPush (putS s k) (k::work) l
def nextAt (bl:List BlockS) (n:Int):List Int:=match bl[n.toNat]? with
 | some b=>nextS b.term
 | none=>[]
def reachGo (bl:List BlockS):Nat→SetS→List Int→SetS
 | 0,s,_=>s
 | _+1,s,[]=>s
 | m+1,s,n::work=>reachGo bl m (reachPush s work (nextAt bl n)).1 (reachPush s work (nextAt bl n)).2
def reachedS (bl:List BlockS):SetS:=if bl.length=0 then emptyS 0 else reachGo bl (2 * bl.length+2) (putS (emptyS bl.length) 0) [0]
def useS (s:SetS) (l:List ArgS):SetS:=l.foldl (fun s a=>putS s a.reg) s
def backS (s:SetS) (x:InsS):SetS:=useS (outS s x.dst) (readsS x)
def liveIn (b:BlockS) (o:SetS):SetS:=b.ins.reverse.foldl backS (useS o (treadsS b.term))
structure LiveS where
 ins:List SetS
 outs:List SetS
 again:Bool
def liveOut (ins:List SetS) (o:SetS) (l:List Int):SetS:=l.foldl (fun o k=>joinS o (ins[k.toNat]?.getD [])) o
def liveStep (bl:List BlockS) (st:LiveS) (i:Nat):LiveS:=match bl[i]? with
 | some b =>
  let o:=liveOut st.ins (st.outs[i]?.getD []) (nextS b.term)
  let a:=st.ins[i]?.getD []
  let n:=joinS a (liveIn b o)
  ⟨st.ins.set i n,st.outs.set i o,st.again || n != a⟩
 | none=>st
def liveDown (bl:List BlockS):Nat→LiveS→LiveS
 | 0,st=>st
 | i+1,st=>liveDown bl i (liveStep bl st i)
def liveRound (bl:List BlockS) (st:LiveS):LiveS:=liveDown bl bl.length { st with again:=false }
inductive LiveRun (bl:List BlockS):LiveS→LiveS→Prop
 | stop {st:LiveS} (h:(liveRound bl st).again=false):LiveRun bl st (liveRound bl st)
 | go {st st':LiveS} (h:(liveRound bl st).again=true) (hr:LiveRun bl (liveRound bl st) st'):LiveRun bl st st'
def live0 (bl:List BlockS) (regs:Int):LiveS:=⟨List.replicate bl.length (emptyS regs),List.replicate bl.length (emptyS regs),true⟩
def wantedS (x:InsS):Bool:=if trapsS x.op=true then decide (0≤x.b.reg) || decide (x.b.num=0) || decide (x.b.num=-1) else if x.op=26 then false else !pureS x.op
def onceGo:List InsS→SetS→List InsS→List InsS
 | [],_,acc=>acc
 | x::r,s,acc=>if !wantedS x && (decide (x.dst < 0) || !hasS s x.dst) then onceGo r s acc else if x.op=2∧x.a.reg=x.dst then onceGo r s acc else onceGo r (backS s x) (x::acc)
def onceB (b:BlockS) (o:SetS):BlockS:={ b with ins:=onceGo b.ins.reverse (useS o (treadsS b.term)) [] }
def onceL:List BlockS→List SetS→List BlockS
 | b::bl,o::os=>onceB b o::onceL bl os
 | bl,[]=>bl
 | [],_=>[]
def sizeS (bl:List BlockS):Nat:=(bl.map fun b=>b.ins.length).sum
inductive OnceS (regs:Int) (bl:List BlockS):List BlockS→Prop
 | mk {st:LiveS} (h:LiveRun bl (live0 bl regs) st):OnceS regs bl (onceL bl st.outs)
inductive CodeS (regs:Int):List BlockS→List BlockS→Prop
 | stop {bl bl':List BlockS} (h:OnceS regs bl bl') (he:sizeS bl'=sizeS bl):CodeS regs bl bl'
 | go {bl bl1 bl':List BlockS} (h:OnceS regs bl bl1) (hn:sizeS bl1≠sizeS bl) (hr:CodeS regs bl1 bl'):CodeS regs bl bl'
def throughGo (bl:List BlockS):Nat→Int→Int
 | 0,k=>k
 | n+1,k=>match bl[k.toNat]? with
  | some b=>if b.ins.length > 0∨b.term.kind≠1 then k else throughGo bl n b.term.goto
  | none=>k
def throughS (bl:List BlockS) (k:Int):Int:=throughGo bl bl.length k
def zeroA:ArgS:=⟨0,0⟩
def jumpT (k:Int):TermS:=⟨1,0,zeroA,zeroA,k,0⟩
def retT:TermS:=⟨3,0,⟨-1,0⟩,zeroA,0,0⟩
def turnT (bl:List BlockS) (t:TermS):TermS :=
 if t.kind=1 then { t with goto:=throughS bl t.goto }
 else if t.kind=2 then
  if throughS bl t.goto=throughS bl t.els then jumpT (throughS bl t.goto) else { t with goto:=throughS bl t.goto,els:=throughS bl t.els }
 else t
def turnAt (bl:List BlockS) (i:Nat):List BlockS:=match bl[i]? with
 | some b=>bl.set i { b with term:=turnT bl b.term }
 | none=>bl
def turnUp (n:Nat):Nat→List BlockS→List BlockS
 | 0,bl=>bl
 | d+1,bl=>turnUp n d (turnAt bl (n - (d+1)))
def turnS (bl:List BlockS):List BlockS:=turnUp bl.length bl.length bl
def countAt (r:SetS) (k:Int):Nat→List BlockS→Nat
 | _,[]=>0
 | i,b::bl=>(if hasS r i=true then (nextS b.term).count k else 0)+countAt r k (i+1) bl
def countS (bl:List BlockS) (r:SetS) (k:Int):Nat:=countAt r k 0 bl
def meltAt (bl:List BlockS) (i:Nat) (k:Int):List BlockS:=match bl[i]?,bl[k.toNat]? with
 | some b,some o=>(bl.set i ⟨b.ins++o.ins,o.term⟩).set k.toNat ⟨[],retT⟩
 | _,_=>bl
def meltGo (i:Nat):Nat→List BlockS→SetS→List BlockS
 | 0,bl,_=>bl
 | m+1,bl,r=>match bl[i]? with
  | some b=>if b.term.kind≠1∨b.term.goto=i∨b.term.goto=0∨countS bl r b.term.goto≠1 then bl else meltGo i m (meltAt bl i b.term.goto) (outS r b.term.goto)
  | none=>bl
def jumpsS (bl:List BlockS):Nat:=bl.countP fun b=>decide (b.term.kind=1)
def meltI (bl:List BlockS) (i:Nat):List BlockS:=if hasS (reachedS bl) i=true then meltGo i (jumpsS bl+1) bl (reachedS bl) else bl
def meltUp (n:Nat):Nat→List BlockS→List BlockS
 | 0,bl=>bl
 | d+1,bl=>meltUp n d (meltI bl (n - (d+1)))
def meltS (bl:List BlockS):List BlockS:=meltUp bl.length bl.length bl
def keptL (r:SetS):Nat→List BlockS→List BlockS
 | _,[]=>[]
 | i,b::bl=>if hasS r i=true then b::keptL r (i+1) bl else keptL r (i+1) bl
def placesS (r:SetS):Nat→Nat→Nat→List Int
 | 0,_,_=>[]
 | m+1,i,n=>(n:Int)::placesS r m (i+1) (if hasS r i=true then n+1 else n)
def placeT (pl:List Int) (t:TermS):TermS :=
 if t.kind=1 then { t with goto:=pl[t.goto.toNat]?.getD 0 } else if t.kind=2 then { t with goto:=pl[t.goto.toNat]?.getD 0,els:=pl[t.els.toNat]?.getD 0 } else t
def dropS (bl:List BlockS):List BlockS :=
 (keptL (reachedS bl) 0 bl).map fun b=>{ b with term:=placeT (placesS (reachedS bl) bl.length 0 0) b.term }
def waysS (bl:List BlockS):List BlockS:=dropS (meltS (turnS bl))
def wordC (w:BitVec 64):Value:=.int .u64 (w.toNat:Int)
def setC (s:SetS):List Value:=s.map wordC
@[simp] theorem setC_length (s:SetS):(setC s).length=s.length:=by simp [setC]
inductive SetAt (h:Hp):Option Addr→SetS→Prop
 | none:SetAt h none []
 | some {b:Nat} {s:SetS} (hm:h.m b=some ⟨⟨setC s⟩,90⟩) (hr:rwM≤b):SetAt h (some ⟨b,0,none⟩) s
def setH (h:Hp) (A:Option Addr) (s:SetS):Hp:=match A with
 | some a=>h.set a.block ⟨⟨setC s⟩,90⟩
 | none=>h
def OffS (S:Nat→Prop) (h h':Hp):Prop:=h.n≤h'.n∧∀ i,i < h.n→¬ S i→h'.m i=h.m i
def Old (h h':Hp):Prop:=h.n≤h'.n∧∀ i,i < h.n→h'.m i=h.m i
theorem Old.refl (h:Hp):Old h h:=⟨Nat.le_refl _,fun _ _=>rfl⟩
theorem Old.trans {a b c:Hp} (h1:Old a b) (h2:Old b c):Old a c:=⟨Nat.le_trans h1.1 h2.1,fun i hi=>by rw [h2.2 i (Nat.lt_of_lt_of_le hi h1.1),h1.2 i hi]⟩
theorem Old.off {S:Nat→Prop} {a b:Hp} (h1:Old a b):OffS S a b:=⟨h1.1,fun i hi _=>h1.2 i hi⟩
theorem OffS.trans {S T:Nat→Prop} {a b c:Hp} (h1:OffS S a b) (h2:OffS T b c) (hs:∀ i,i < a.n→T i→S i):OffS S a c :=
 ⟨Nat.le_trans h1.1 h2.1,fun i hi hn=>by rw [h2.2 i (Nat.lt_of_lt_of_le hi h1.1) (fun ht=>hn (hs i hi ht)),h1.2 i hi hn]⟩
theorem OffS.mono {S T:Nat→Prop} {a b:Hp} (h1:OffS S a b) (hs:∀ i,i < a.n→S i→T i):OffS T a b:=⟨h1.1,fun i hi hn=>h1.2 i hi fun h=>hn (hs i hi h)⟩
theorem OffS.old {S:Nat→Prop} {a b:Hp} (h1:OffS S a b) (hs:∀ i,i < a.n→¬ S i):Old a b:=⟨h1.1,fun i hi=>h1.2 i hi (hs i hi)⟩
theorem Old.up {a b:Hp} (h:Old a b) (hd:∀ i x,a.m i=some x→i < a.n):∀ i x,a.m i=some x→b.m i=some x:=fun i x hx=>by rw [h.2 i (hd i x hx)];exact hx
theorem Old.push (h:Hp) (b:Blk):Old h (h.push b):=⟨Nat.le_succ _,fun i hi=>by show (if i=h.n then some b else h.m i)=_;rw [if_neg (by omega)]⟩
theorem push_new (h:Hp) (b:Blk):(h.push b).m h.n=some b:=by show (if h.n=h.n then some b else h.m h.n)=_;rw [if_pos rfl]
theorem OffS.set (h:Hp) (i:Nat) (b:Blk):OffS (fun j=>j=i) h (h.set i b):=⟨Nat.le_refl _,fun j _ hn=>by show (if j=i then some b else h.m j)=_;rw [if_neg hn]⟩
theorem _root_.Go.AH.Absb.oldH {P:Program} {h:Hp} {π:Nat→Nat} {k:Nat} {l:List (Nat × Option Blk)} {B:Hp} (a:Absb (P:=P) ⟨h,π,k,l⟩ B):Old h B:=⟨a.le,a.old⟩
def IntAt (h:Hp) (L:Option Addr) (l:List Int):Prop:=l=[]∨∃ nr,L=some ⟨nr,0,none⟩∧h.m nr=some ⟨⟨l.map (.int .i64)⟩,3⟩
theorem argR_row {h:Hp} {b:Nat} {l:List ArgS} {e:TypeId} (hm:h.m b=some ⟨⟨argsC l⟩,e⟩):SlAt h (some ⟨b,0,none⟩) 2 l argR :=
 ⟨fun i a ha=>⟨b,0,argsC l,e,rfl,hm,by rw [argsC_length];have:=(List.getElem?_eq_some_iff.1 ha).1;omega,argsC_at ha⟩⟩
theorem reads_ex (x:InsS) (A:Option Addr) (c:Nat) (hn:x.args.length≤1000000000) (h:Hp) (hl:SlAt h A 2 x.args argR):EX Tryd.prog 50 [.agg ⟨insC x A c⟩] h (fun v h'=>∃ A' c',v=.slice A' (readsS x).length c'∧SlAt h' A' 2 (readsS x) argR∧Old h h'):=by
 by_cases h28:x.op=28
 ·refine (TF.ex (reads28_tf x A c h28 h)).mono ?_
  rintro v h' _ ⟨rfl,rfl⟩
  have e:readsS x=x.args:=by unfold readsS;rw [if_pos h28]
  rw [e]
  exact ⟨_,_,rfl,hl,Old.refl _⟩
 by_cases h29:x.op=29
 ·refine (TF.ex (reads29_tf x A c h29 hn h hl)).mono ?_
  rintro v h' _ ⟨rfl,rfl⟩
  have e:readsS x=x.a::x.args:=by unfold readsS;rw [if_neg h28,if_pos h29]
  rw [e]
  exact ⟨_,_,by rw [List.length_cons,Nat.add_comm],argR_row (push_new _ _),Old.push _ _⟩
 by_cases h2:twoS x.op=true∨x.op=27
 ·refine (TF.ex (reads2_tf x A c h2 h)).mono ?_
  rintro v h' _ ⟨rfl,rfl⟩
  have e:readsS x=[x.a,x.b]:=by unfold readsS;rw [if_neg h28,if_neg h29,if_pos h2]
  rw [e]
  exact ⟨_,_,rfl,argR_row (l:=[x.a,x.b]) (e:=46) (by simpa [argsC] using push_new _ _),Old.push _ _⟩
 by_cases h3:23≤x.op∧x.op≤25
 ·refine (TF.ex (reads0_tf x A c h3 h)).mono ?_
  rintro v h' _ ⟨rfl,rfl⟩
  have e:readsS x=[]:=by unfold readsS;rw [if_neg h28,if_neg h29,if_neg h2,if_pos h3]
  rw [e]
  exact ⟨_,_,rfl,.nil,Old.refl _⟩
 ·rw [not_or] at h2
  refine (TF.ex (reads1_tf x A c (by simpa using h2.1) h3 (by omega) h)).mono ?_
  rintro v h' _ ⟨rfl,rfl⟩
  have e:readsS x=[x.a]:=by unfold readsS;rw [if_neg h28,if_neg h29,if_neg (not_or.2 h2),if_neg h3]
  rw [e]
  exact ⟨_,_,rfl,argR_row (l:=[x.a]) (e:=46) (by simpa [argsC] using push_new _ _),Old.push _ _⟩
end Go.Proofs.YtjhloakacicdiaaDoor
