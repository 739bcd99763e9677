/-
  What the functions that the law reaches compute,told by plain data;it holds of programs that pass the check of right form and are light.
-/
import Derived.Test.YtjhloakacicdiaaDoorR3
import Derived.Test.YtjhloakacicdiaaDoorR8
set_option linter.unusedVariables false
set_option linter.unusedSimpArgs false
namespace Go.Proofs.YtjhloakacicdiaaDoor
open Go.AH
attribute [local irreducible] W RS
def lightG (g:GlobS):Bool:=decide (g.place≤4096) && decide (g.size≤4096) && decide (g.parts.length≤50) && g.parts.all (fun x=>decide (x.data.length≤4096))
def lightI:List InsS→Nat→Option Nat
 | [],n=>some n
 | x::l,n=>if n+x.args.length≤4000∧-1073741824≤x.off∧x.off≤1073741824 then lightI l (n+x.args.length) else none
def lightB:List BlockS→Nat→Option Nat
 | [],n=>some n
 | b::l,n=>if n+b.ins.length≤2000 then (lightI b.ins (n+b.ins.length)).bind (lightB l) else none
def lightS (f:FuncS):Bool:=f.slots.all (fun s=>decide (0≤s) && decide (s≤1000) && decide (f.slots.length≤4))
def lightF:List FuncS→Nat→Option Nat
 | [],n=>some n
 | f::l,n=>if n+(1+f.blocks.length+f.slots.length)≤2000∧0≤f.regs∧f.regs≤300∧lightS f=true then (lightB f.blocks (n+(1+f.blocks.length+f.slots.length))).bind (lightF l) else none
def lightP (p:ProgS):Bool:=decide (p.funcs.length≤20) && decide (p.globals.length≤20) && decide (0≤p.data) && decide (p.data≤4096) && p.globals.all lightG && (lightF p.funcs 0).isSome
theorem drop_get {α:Type} {l:List α} {i:Nat} {x:α} (h:l[i]?=some x):l.drop i=x::l.drop (i+1):=by
 have hlt:=(List.getElem?_eq_some_iff.1 h).1
 rw [List.drop_eq_getElem_cons hlt]
 rw [List.getElem?_eq_getElem hlt] at h
 injection h with h
 rw [h]
theorem lightP_of {p:ProgS} (h1:p.funcs.length≤20) (h2:p.globals.length≤20) (h3:0≤p.data) (h4:p.data≤4096) (h5:p.globals.all lightG=true):lightP p=(lightF p.funcs 0).isSome:=by
 unfold lightP
 simp [h1,h2,h3,h4,h5]
set_option maxHeartbeats 2000000 in
set_option maxRecDepth 100000 in
theorem Light_tf (p:ProgS) (hok:p.ok) (h:Hp) (P1:Option Addr) (d1:Nat) (P2:Option Addr) (d2:Nat) (hfs:SlAt h P1 6 p.funcs (funcR h)) (hgs:SlAt h P2 4 p.globals (globR h)) :
 TF Tryd.prog 36 ⟨[.agg ⟨progC p P1 d1 P2 d2⟩]⟩ h (.bool (lightP p)) h:=by
 refine TF.dom fun hd=>?_
 have hnf:=hok.nfuncs
 have hng:=hok.nglobs
 refine TF.still (fn:=Tryd.f36) (c:=(Tryd.f36.body.getD .skip)) Tryd.func36 (by kernel_rfl) Tryd.ntmps36 (by kernel_rfl) (by simp) ?_
 conv=>arg 2;whnf
 repeat' (first|refine Y4u ?_|refine Yf ?_|refine Y8 ?_|refine Yj ?_|refine Y7 ?_|refine Ym ?_|refine Y0 ?_|refine Y27 ?_|refine Y1 ?_|refine Y5 ?_|((refine YD ?_ ?_)<;>intro _)|((refine YG ?_ ?_)<;>intro _)|((refine YC ?_ ?_)<;>intro _)|((refine YN ?_ ?_)<;>intro _))
 rotate_left 4
 ·rename_i u1 u2 u3 u4
  have hhead:p.globals.all lightG=true→lightP p=(lightF p.funcs 0).isSome:=fun hz=>lightP_of (by omega) (by omega) (by omega) (by omega) hz
  have hgno:p.globals.all lightG=false→lightP p=false:=fun hz=>by unfold lightP;rw [hz];simp
  refine W.loop (X:=Nat) (fun π i=>[(1,.pointer (some ⟨π 0,0,none⟩)),(3,.int .i64 0),(37,.slice P2 p.globals.length d2),(38,.int .i64 p.globals.length),(39,.int .i64 i)]) (fun _=>h) (fun π i=>[(0,some ⟨⟨progC p P1 d1 P2 d2⟩,25⟩)]) (fun i=>i≤p.globals.length∧p.globals.all lightG=(p.globals.drop i).all lightG) (fun i=>p.globals.length - i) [0] 0 ⟨Nat.zero_le _,rfl⟩ (by (refine FitL.mk ?_ ?_ ?_ ?_<;>(repeat' (first|exact trivial|exact rfl|apply And.intro));done)) ?_
  intro π i hI
  obtain ⟨hi,hI⟩:=hI
  dsimp only at hi hI ⊢
  by_cases hlt:i < p.globals.length
  ·obtain ⟨g,hg⟩:∃ g,p.globals[i]?=some g:=⟨_,List.getElem?_eq_getElem hlt⟩
   obtain ⟨gb,go,gcs,ge,rfl,hG,hGl,hGv⟩:=hgs.get i g hg
   have hGn:=hd _ _ hG
   obtain ⟨A',c',hGv,hGs⟩:=hGv
   have hgm:=hok.globs g (List.mem_of_getElem? hg)
   have hgn:=hgm.nparts
   rw [all_drop hg] at hI
   have hgf:lightG g=false→lightP p=false:=fun hz=>hgno (by rw [hI,hz];rfl)
   repeat' (first|refine Y9 ?_|refine Y1j ?_|refine Y1p ?_|refine Yf ?_|refine Y8 ?_|refine Y3 ?_|refine Yj ?_|refine Y7 ?_|refine Y4 ?_|refine Yd ?_|refine Ym ?_|refine Y0 ?_|refine Y2m ?_|refine Y1 ?_|refine Y5 ?_|((refine YD ?_ ?_)<;>intro _)|((refine YG ?_ ?_)<;>intro _)|((refine YC ?_ ?_)<;>intro _)|((refine YN ?_ ?_)<;>intro _))
   rotate_left 3
   ·rename_i v1 v2 v3
    have hgh:lightG g=g.parts.all (fun x=>decide (x.data.length≤4096)):=by
     unfold lightG
     rw [decide_eq_true (by omega:g.place≤4096),decide_eq_true (by omega:g.size≤4096),decide_eq_true (by omega:g.parts.length≤50)]
     simp
    refine W.loop (X:=Nat) (fun π j=>[(1,.pointer (some ⟨π 0,0,none⟩)),(3,.int .i64 0),(37,.slice (some ⟨gb,go,none⟩) p.globals.length d2),(38,.int .i64 p.globals.length),(39,.int .i64 i),(5,.pointer (some ⟨π 1,0,none⟩)),(58,.slice A' g.parts.length c'),(59,.int .i64 g.parts.length),(60,.int .i64 j)]) (fun _=>h) (fun π i=>[(1,some ⟨⟨globC g A' c'⟩,111⟩),(0,some ⟨⟨progC p P1 d1 (some ⟨gb,go,none⟩) d2⟩,25⟩)]) (fun j=>j≤g.parts.length∧g.parts.all (fun x=>decide (x.data.length≤4096))=(g.parts.drop j).all (fun x=>decide (x.data.length≤4096))) (fun j=>g.parts.length - j) [0,1] 0 ⟨Nat.zero_le _,rfl⟩ (by (refine FitL.mk ?_ ?_ ?_ ?_<;>(repeat' (first|exact trivial|exact rfl|apply And.intro));done)) ?_
    intro π j hJ
    obtain ⟨hj,hJ⟩:=hJ
    dsimp only at hj hJ ⊢
    by_cases hlj:j < g.parts.length
    ·obtain ⟨x,hx⟩:∃ x,g.parts[j]?=some x:=⟨_,List.getElem?_eq_getElem hlj⟩
     obtain ⟨xb,xo,xcs,xe,rfl,hQ,hQl,hQv⟩:=hGs.get j x hx
     have hQn:=hd _ _ hQ
     obtain ⟨A'',c'',hQv,hQs⟩:=hQv
     have hxn:=(hgm.parts x (List.mem_of_getElem? hx)).ndata
     rw [all_drop hx] at hJ
     repeat' (first|refine Y9 ?_|refine Y1r ?_|refine Y1p ?_|refine Y3 ?_|refine Yj ?_|refine Yb ?_|refine Y7 ?_|refine Y4 ?_|refine Yd ?_|refine Y0 ?_|refine Y13 ?_|refine Y1 ?_|refine Y5 ?_|((refine YD ?_ ?_)<;>intro _)|((refine YG ?_ ?_)<;>intro _)|((refine YC ?_ ?_)<;>intro _)|((refine YN ?_ ?_)<;>intro _))
     ·refine endsK_ret _ (.cons (.tmp rfl) .nil) ⟨rfl,?_⟩
      have hz:decide (x.data.length≤4096)=false:=by simp;omega
      rw [hz,Bool.false_and] at hJ
      rw [hgf (hgh.trans hJ)];rfl
     ·have hz:decide (x.data.length≤4096)=true:=by simp;omega
      rw [hz,Bool.true_and] at hJ
      exact roundK_n (j+1) [0,1] rfl rfl ⟨by omega,hJ⟩ (by omega) (by (refine FitL.mk ?_ ?_ ?_ ?_<;>(repeat' (first|exact trivial|exact rfl|apply And.intro));done))
    ·repeat (first|refine Y28 ?_|refine Y2 ?_|refine Yb ?_|refine Y0 ?_|refine Y2d ?_|refine Y1 ?_|refine Y6 ?_|refine Yi ?_)
     rw [List.drop_eq_nil_of_le (by omega)] at hJ
     have hz:lightG g=true:=by rw [hgh,hJ];rfl
     rw [hz,Bool.true_and] at hI
     exact roundK_n (i+1) [0] rfl rfl ⟨by omega,hI⟩ (by omega) (by (refine FitL.mk ?_ ?_ ?_ ?_<;>(repeat' (first|exact trivial|exact rfl|apply And.intro));done))
   ·refine endsK_ret _ (.cons (.tmp rfl) .nil) ⟨rfl,?_⟩
    rw [hgf (by unfold lightG;simp;omega)];rfl
   ·refine endsK_ret _ (.cons (.tmp rfl) .nil) ⟨rfl,?_⟩
    rw [hgf (by unfold lightG;simp;omega)];rfl
   ·refine endsK_ret _ (.cons (.tmp rfl) .nil) ⟨rfl,?_⟩
    rw [hgf (by unfold lightG;simp;omega)];rfl
  ·repeat (first|refine Y1z ?_|refine Y2 ?_|refine Y7 ?_|refine Y0 ?_|refine Y59 ?_|refine Y1 ?_|refine Y6 ?_|refine Yi ?_)
   rw [List.drop_eq_nil_of_le (by omega)] at hI
   have hres:=hhead hI
   refine W.loop (X:=Nat × Nat) (fun π y=>[(1,.pointer (some ⟨π 0,0,none⟩)),(3,.int .i64 y.2),(71,.slice P1 p.funcs.length d1),(72,.int .i64 p.funcs.length),(73,.int .i64 y.1)]) (fun _=>h) (fun π i=>[(0,some ⟨⟨progC p P1 d1 P2 d2⟩,25⟩)]) (fun y=>y.1≤p.funcs.length∧y.2≤4000∧lightP p=(lightF (p.funcs.drop y.1) y.2).isSome) (fun y=>p.funcs.length - y.1) [0] (0,0) ⟨Nat.zero_le _,Nat.zero_le _,hres⟩ (by (refine FitL.mk ?_ ?_ ?_ ?_<;>(repeat' (first|exact trivial|exact rfl|apply And.intro));done)) ?_
   intro π y hI
   obtain ⟨i,n⟩:=y
   obtain ⟨hi,hn,hI⟩:=hI
   dsimp only at hi hn hI ⊢
   by_cases hlt:i < p.funcs.length
   ·obtain ⟨f,hf⟩:∃ g,p.funcs[i]?=some g:=⟨_,List.getElem?_eq_getElem hlt⟩
    obtain ⟨fb,fo,fcs,fe,rfl,hF,hFl,hFv⟩:=hfs.get i f hf
    have hFn:=hd _ _ hF
    obtain ⟨F1,c1,F2,c2,F3,c3,hFv,hFsl,hFbl⟩:=hFv
    have hfm:=hok.funcs f (List.mem_of_getElem? hf)
    have hnb:=hfm.nblocks
    have hns:=hfm.nslots
    rw [drop_get hf] at hI
    repeat' (first|refine Y9 ?_|((with_reducible apply RS.loadNB);(iterate 3 exact rfl);exact hF;exact hFn;exact hFl;exact hFv)|refine Y1p ?_|refine Yf ?_|refine Y8 ?_|refine Y3 ?_|refine Yj ?_|refine Yu ?_|refine Y7 ?_|refine Y4 ?_|refine Yd ?_|refine Ym ?_|refine Y0 ?_|refine Y2m ?_|refine Y1 ?_|refine Y5 ?_|((refine YD ?_ ?_)<;>intro _)|((refine YG ?_ ?_)<;>intro _)|((refine YC ?_ ?_)<;>intro _)|((refine YN ?_ ?_)<;>intro _))
    rotate_left 3
    ·rename_i w1 w2 w3
     have hm:n+(1+f.blocks.length+f.slots.length)≤2000:=by omega
     have hcv:(n:Int)+(1+(f.blocks.length:Int)+(f.slots.length:Int))=((n+(1+f.blocks.length+f.slots.length):Nat):Int):=by omega
     have hfy:lightS f=true→lightP p=((lightB f.blocks (n+(1+f.blocks.length+f.slots.length))).bind (lightF (p.funcs.drop (i+1)))).isSome:=fun hz=>by rw [hI];show (if _ then _ else _:Option Nat).isSome=_;rw [if_pos ⟨hm,by omega,by omega,hz⟩]
     have hfn:lightS f=false→lightP p=false:=fun hz=>by rw [hI];show (if _ then _ else _:Option Nat).isSome=_;rw [if_neg (fun hh=>by rw [hh.2.2.2] at hz;cases hz)];rfl
     rw [hcv]
     clear hI hcv
     generalize hM:n+(1+f.blocks.length+f.slots.length)=m at *
     refine W.loop (X:=Nat) (fun π j=>[(1,.pointer (some ⟨π 0,0,none⟩)),(3,.int .i64 m),(71,.slice (some ⟨fb,fo,none⟩) p.funcs.length d1),(72,.int .i64 p.funcs.length),(73,.int .i64 i),(9,.pointer (some ⟨π 1,0,none⟩)),(100,.slice F2 f.slots.length c2),(101,.int .i64 f.slots.length),(102,.int .i64 j)]) (fun _=>h) (fun π i=>[(1,some ⟨⟨funcC f F1 c1 F2 c2 F3 c3⟩,37⟩),(0,some ⟨⟨progC p (some ⟨fb,fo,none⟩) d1 P2 d2⟩,25⟩)]) (fun j=>j≤f.slots.length∧lightS f=(f.slots.drop j).all (fun s=>decide (0≤s) && decide (s≤1000) && decide (f.slots.length≤4))) (fun j=>f.slots.length - j) [0,1] 0 ⟨Nat.zero_le _,rfl⟩ (by (refine FitL.mk ?_ ?_ ?_ ?_<;>(repeat' (first|exact trivial|exact rfl|apply And.intro));done)) ?_
     intro π j hJ
     obtain ⟨hj,hJ⟩:=hJ
     dsimp only at hj hJ ⊢
     by_cases hlj:j < f.slots.length
     ·obtain ⟨s,hs⟩:∃ x,f.slots[j]?=some x:=⟨_,List.getElem?_eq_getElem hlj⟩
      obtain ⟨zb,zo,zcs,ze,rfl,hZ,hZl,hZv⟩:=hFsl.get j s hs
      have hZn:=hd _ _ hZ
      have hZc:=take_nth (j:=0) hZv rfl
      rw [all_drop hs] at hJ
      repeat' (first|refine Y9 ?_|((with_reducible apply RS.load1B);(iterate 3 exact rfl);exact hZ;exact hZn;exact hZc)|refine Y1p ?_|refine Yf ?_|refine Y8 ?_|refine Y3 ?_|refine Yj ?_|refine Yb ?_|refine Y7 ?_|refine Ym ?_|refine Y0 ?_|refine Y13 ?_|refine Y1 ?_|refine Y5 ?_|((refine YD ?_ ?_)<;>intro _)|((refine YG ?_ ?_)<;>intro _)|((refine YC ?_ ?_)<;>intro _)|((refine YN ?_ ?_)<;>intro _))
      rotate_left 3
      ·rw [show (decide (0≤s) && decide (s≤1000) && decide (f.slots.length≤4))=true by simp;omega,Bool.true_and] at hJ
       exact roundK_n (j+1) [0,1] rfl rfl ⟨by omega,hJ⟩ (by omega) (by (refine FitL.mk ?_ ?_ ?_ ?_<;>(repeat' (first|exact trivial|exact rfl|apply And.intro));done))
      all_goals refine endsK_ret _ (.cons (.tmp rfl) .nil) ⟨rfl,?_⟩
      all_goals rw [show (decide (0≤s) && decide (s≤1000) && decide (f.slots.length≤4))=false by simp;omega,Bool.false_and] at hJ
      all_goals rw [hfn hJ];rfl
     ·repeat (first|refine Y1z ?_|refine Y2 ?_|refine Y7 ?_|refine Y0 ?_|refine Y59 ?_|refine Y1 ?_|refine Y6 ?_|refine Yi ?_)
      rw [List.drop_eq_nil_of_le (by omega)] at hJ
      refine W.loop (X:=Nat × Nat) (fun π y=>[(1,.pointer (some ⟨π 0,0,none⟩)),(3,.int .i64 y.2),(71,.slice (some ⟨fb,fo,none⟩) p.funcs.length d1),(72,.int .i64 p.funcs.length),(73,.int .i64 i),(9,.pointer (some ⟨π 1,0,none⟩)),(120,.slice F3 f.blocks.length c3),(121,.int .i64 f.blocks.length),(122,.int .i64 y.1)]) (fun _=>h) (fun π i=>[(1,some ⟨⟨funcC f F1 c1 F2 c2 F3 c3⟩,37⟩),(0,some ⟨⟨progC p (some ⟨fb,fo,none⟩) d1 P2 d2⟩,25⟩)]) (fun y=>y.1≤f.blocks.length∧y.2≤4000∧lightP p=((lightB (f.blocks.drop y.1) y.2).bind (lightF (p.funcs.drop (i+1)))).isSome) (fun y=>f.blocks.length - y.1) [0,1] (0,m) ⟨Nat.zero_le _,by omega,hfy hJ⟩ (by (refine FitL.mk ?_ ?_ ?_ ?_<;>(repeat' (first|exact trivial|exact rfl|apply And.intro));done)) ?_
      clear hj hJ hlj hfy hfn
      intro π y hJ
      obtain ⟨j,m⟩:=y
      obtain ⟨hj,hm4,hJ⟩:=hJ
      dsimp only at hj hm4 hJ ⊢
      by_cases hlj:j < f.blocks.length
      ·obtain ⟨b,hb⟩:∃ b,f.blocks[j]?=some b:=⟨_,List.getElem?_eq_getElem hlj⟩
       obtain ⟨bb,bo,bcs,be,rfl,hB,hBl,hBv⟩:=hFbl.get j b hb
       have hBn:=hd _ _ hB
       obtain ⟨A',c',hBv,hBi⟩:=hBv
       have hbm:=hfm.blocks b (List.mem_of_getElem? hb)
       have hni:=hbm.n
       rw [drop_get hb] at hJ
       repeat' (first|refine Y9 ?_|refine Y3e ?_|refine Y1p ?_|refine Y3 ?_|refine Yj ?_|refine Y5c ?_|refine Y7 ?_|refine Y4 ?_|refine Yd ?_|refine Y0 ?_|refine Y2m ?_|refine Y1 ?_|refine Y5 ?_|((refine YD ?_ ?_)<;>intro _)|((refine YG ?_ ?_)<;>intro _)|((refine YC ?_ ?_)<;>intro _)|((refine YN ?_ ?_)<;>intro _))
       ·refine endsK_ret _ (.cons (.tmp rfl) .nil) ⟨rfl,?_⟩
        rw [show lightP p=false by rw [hJ];show (Option.bind (if _ then _ else _:Option Nat) _).isSome=_;rw [if_neg (fun hh=>by omega)];rfl];rfl
       ·rename_i w4
        have hm2:m+b.ins.length≤2000:=by omega
        have hky:lightP p=(((lightI b.ins (m+b.ins.length)).bind (lightB (f.blocks.drop (j+1)))).bind (lightF (p.funcs.drop (i+1)))).isSome:=by rw [hJ];show (Option.bind (if _ then _ else _:Option Nat) _).isSome=_;rw [if_pos hm2]
        refine W.loop (X:=Nat × Nat) (fun π y=>[(1,.pointer (some ⟨π 0,0,none⟩)),(3,.int .i64 y.2),(71,.slice (some ⟨fb,fo,none⟩) p.funcs.length d1),(72,.int .i64 p.funcs.length),(73,.int .i64 i),(9,.pointer (some ⟨π 1,0,none⟩)),(120,.slice (some ⟨bb,bo,none⟩) f.blocks.length c3),(121,.int .i64 f.blocks.length),(122,.int .i64 j),(13,.pointer (some ⟨π 2,0,none⟩)),(134,.slice A' b.ins.length c'),(135,.int .i64 b.ins.length),(136,.int .i64 y.1)]) (fun _=>h) (fun π i=>[(2,some ⟨⟨blockC b A' c'⟩,50⟩),(1,some ⟨⟨funcC f F1 c1 F2 c2 (some ⟨bb,bo,none⟩) c3⟩,37⟩),(0,some ⟨⟨progC p (some ⟨fb,fo,none⟩) d1 P2 d2⟩,25⟩)]) (fun y=>y.1≤b.ins.length∧y.2≤4000∧lightP p=(((lightI (b.ins.drop y.1) y.2).bind (lightB (f.blocks.drop (j+1)))).bind (lightF (p.funcs.drop (i+1)))).isSome) (fun y=>b.ins.length - y.1) [0,1,2] (0,m+b.ins.length) ⟨Nat.zero_le _,by omega,hky⟩ (by (refine FitL.mk ?_ ?_ ?_ ?_<;>(repeat' (first|exact trivial|exact rfl|apply And.intro));done)) ?_
        clear hJ w4 hm2 hky hm4
        intro π y hK
        obtain ⟨k,m⟩:=y
        obtain ⟨hk,hm4,hK⟩:=hK
        dsimp only at hk hm4 hK ⊢
        by_cases hlk:k < b.ins.length
        ·obtain ⟨x,hx⟩:∃ x,b.ins[k]?=some x:=⟨_,List.getElem?_eq_getElem hlk⟩
         obtain ⟨xb,xo,xcs,xe,rfl,hX,hXl,hXv⟩:=hBi.get k x hx
         have hXn:=hd _ _ hX
         obtain ⟨A'',c'',hXv,hXs⟩:=hXv
         have hxn:=(hbm.ins x (List.mem_of_getElem? hx)).n
         rw [drop_get hx] at hK
         repeat' (first|refine Y9 ?_|refine Y4d ?_|refine Y1p ?_|refine Yf ?_|refine Y8 ?_|refine Y3 ?_|refine Yj ?_|refine Yb ?_|refine Y5c ?_|refine Y7 ?_|refine Y4 ?_|refine Yd ?_|refine Ym ?_|refine Y0 ?_|refine Y13 ?_|refine Y1 ?_|refine Y5 ?_|((refine YD ?_ ?_)<;>intro _)|((refine YG ?_ ?_)<;>intro _)|((refine YC ?_ ?_)<;>intro _)|((refine YN ?_ ?_)<;>intro _))
         rotate_left 3
         ·exact roundK_n (k+1,m+x.args.length) [0,1,2] rfl rfl ⟨by omega,by dsimp only;omega,hK.trans (by show (Option.bind (Option.bind (if _ then _ else _:Option Nat) _) _).isSome=_;rw [if_pos ⟨by omega,by omega,by omega⟩])⟩ (by omega) (by (refine FitL.mk ?_ ?_ ?_ ?_<;>(repeat' (first|exact trivial|exact rfl|apply And.intro));done))
         all_goals refine endsK_ret _ (.cons (.tmp rfl) .nil) ⟨rfl,?_⟩
         all_goals rw [show lightP p=false by rw [hK];show (Option.bind (Option.bind (if _ then _ else _:Option Nat) _) _).isSome=_;rw [if_neg (fun hh=>by omega)];rfl];rfl
        ·repeat (first|refine Y28 ?_|refine Y2 ?_|refine Yb ?_|refine Y0 ?_|refine Y2d ?_|refine Y1 ?_|refine Y6 ?_|refine Yi ?_)
         rw [List.drop_eq_nil_of_le (by omega)] at hK
         exact roundK_n (j+1,m) [0,1] rfl rfl ⟨by omega,hm4,hK⟩ (by omega) (by (refine FitL.mk ?_ ?_ ?_ ?_<;>(repeat' (first|exact trivial|exact rfl|apply And.intro));done))
      ·repeat (first|refine Y28 ?_|refine Y2 ?_|refine Yb ?_|refine Y0 ?_|refine Y2d ?_|refine Y1 ?_|refine Y6 ?_|refine Yi ?_)
       rw [List.drop_eq_nil_of_le (by omega)] at hJ
       exact roundK_n (i+1,m) [0] rfl rfl ⟨by omega,hm4,hJ⟩ (by omega) (by (refine FitL.mk ?_ ?_ ?_ ?_<;>(repeat' (first|exact trivial|exact rfl|apply And.intro));done))
    ·refine endsK_ret _ (.cons (.tmp rfl) .nil) ⟨rfl,?_⟩
     rw [show lightP p=false by rw [hI];show (if _ then _ else _:Option Nat).isSome=_;rw [if_neg (fun hh=>by omega)];rfl];rfl
    ·refine endsK_ret _ (.cons (.tmp rfl) .nil) ⟨rfl,?_⟩
     rw [show lightP p=false by rw [hI];show (if _ then _ else _:Option Nat).isSome=_;rw [if_neg (fun hh=>by omega)];rfl];rfl
    ·refine endsK_ret _ (.cons (.tmp rfl) .nil) ⟨rfl,?_⟩
     rw [show lightP p=false by rw [hI];show (if _ then _ else _:Option Nat).isSome=_;rw [if_neg (fun hh=>by omega)];rfl];rfl
   ·repeat (first|refine Y14 ?_|refine Y2 ?_|refine Y0 ?_|refine Y1l ?_|refine Y1 ?_|refine Y6 ?_|refine Yi ?_)
    rw [List.drop_eq_nil_of_le (by omega)] at hI
    exact endsK_ret _ (.cons (.tmp rfl) .nil) ⟨rfl,by rw [hI];rfl⟩
 all_goals refine endsK_ret _ (.cons (.tmp rfl) .nil) ⟨rfl,?_⟩
 ·rw [show lightP p=false by unfold lightP;simp;omega];rfl
 ·rw [show lightP p=false by unfold lightP;simp;omega];rfl
 ·rw [show lightP p=false by unfold lightP;simp;omega];rfl
 ·rw [show lightP p=false by unfold lightP;simp;omega];rfl
theorem lightI_le:∀ {l:List InsS} {n m:Nat},lightI l n=some m→n≤4000→n≤m∧m≤4000∧∀ x∈l,x.args.length≤4000:=by
 intro l
 induction l with
 | nil =>
  intro n m h hn
  simp only [lightI,Option.some.injEq] at h
  subst h
  exact ⟨Nat.le_refl _,hn,fun x hx=>by cases hx⟩
 | cons a l ih =>
  intro n m h hn
  rw [lightI] at h
  split at h
  ·rename_i hc
   obtain ⟨h1,h2,h3⟩:=ih h (by omega)
   refine ⟨by omega,h2,fun x hx=>?_⟩
   rcases List.mem_cons.1 hx with rfl|hx
   ·omega
   ·exact h3 x hx
  ·cases h
theorem lightB_le:∀ {l:List BlockS} {n m:Nat},lightB l n=some m→n≤4000→n+sizeS l≤m∧m≤4000∧∀ b∈l,∀ x∈b.ins,x.args.length≤4000:=by
 intro l
 induction l with
 | nil =>
  intro n m h hn
  simp only [lightB,Option.some.injEq] at h
  subst h
  exact ⟨Nat.le_refl _,hn,fun x hx=>by cases hx⟩
 | cons a l ih =>
  intro n m h hn
  rw [lightB] at h
  split at h
  ·rename_i hc
   obtain ⟨k,h1,h2⟩:=Option.bind_eq_some_iff.1 h
   obtain ⟨i1,i2,i3⟩:=lightI_le h1 (by omega)
   obtain ⟨j1,j2,j3⟩:=ih h2 i2
   have e:sizeS (a::l)=a.ins.length+sizeS l:=by simp [sizeS]
   refine ⟨by omega,j2,fun b hb=>?_⟩
   rcases List.mem_cons.1 hb with rfl|hb
   ·exact i3
   ·exact j3 b hb
  ·cases h
theorem lightF_le:∀ {l:List FuncS} {n m:Nat},lightF l n=some m→∀ f∈l,(0≤f.regs∧f.regs≤300)∧f.slots.length≤2000∧f.blocks.length≤2000∧sizeS f.blocks≤4000∧∀ b∈f.blocks,∀ x∈b.ins,x.args.length≤4000:=by
 intro l
 induction l with
 | nil=>intro n m _ f hf;cases hf
 | cons a l ih =>
  intro n m h f hf
  rw [lightF] at h
  split at h
  ·rename_i hc
   obtain ⟨k,h1,h2⟩:=Option.bind_eq_some_iff.1 h
   rcases List.mem_cons.1 hf with rfl|hf
   ·obtain ⟨j1,j2,j3⟩:=lightB_le h1 (by omega)
    exact ⟨⟨hc.2.1,hc.2.2.1⟩,by omega,by omega,by omega,j3⟩
   ·exact ih h2 f hf
  ·cases h
theorem tgt_of {f:FuncS} {b:BlockS} (h:endsS f b.term=true):∀ k∈nextS b.term,0≤k∧k < f.blocks.length:=by
 unfold endsS at h
 simp only [Bool.and_eq_true] at h
 intro k hk
 have:=List.all_eq_true.1 h.2 k hk
 simpa using this
structure LightF (p:ProgS) (f:FuncS):Prop where
 ok:OkL f.regs f.blocks
 cp:CopyOK f
theorem reads_fit {x:InsS} (h:x.ok):∀ a∈readsS x,fitI a.reg:=by
 intro a ha
 unfold readsS at ha
 have key:a=x.a∨a=x.b∨a∈x.args:=by
  repeat' split at ha
  all_goals try simp only [List.mem_cons,List.not_mem_nil,or_false] at ha
  all_goals first
   | exact .inr (.inr ha)
   | (rcases ha with ha | ha
      ·exact .inl ha
      ·first|exact .inr (.inr ha)|exact .inr (.inl ha))
   | exact ha.elim
   | exact .inl ha
 rcases key with rfl|rfl|h1
 ·exact h.a.1
 ·exact h.b.1
 ·exact (h.args a h1).1
theorem treads_fit {t:TermS} (h:t.ok):∀ a∈treadsS t,fitI a.reg:=by
 intro a ha
 unfold treadsS at ha
 repeat' split at ha
 all_goals simp only [List.mem_cons,List.not_mem_nil,or_false] at ha
 ·rcases ha with rfl|rfl
  ·exact h.a.1
  ·exact h.b.1
 ·subst ha;exact h.a.1
theorem light_right {p:ProgS} (hok:p.ok) (hl:lightP p=true) (hr:rightP p=true):∀ f∈p.funcs,LightF p f:=by
 intro f hf
 unfold lightP at hl
 simp only [Bool.and_eq_true,decide_eq_true_eq] at hl
 obtain ⟨_,h6⟩:=hl
 obtain ⟨m,hm⟩:=Option.isSome_iff_exists.1 h6
 obtain ⟨⟨l1,l2⟩,l3,l4,l5,l6⟩:=lightF_le hm f hf
 unfold rightP at hr
 simp only [Bool.and_eq_true,decide_eq_true_eq] at hr
 have hrf:=List.all_eq_true.1 hr.2 f hf
 unfold funcOK at hrf
 simp only [Bool.and_eq_true,decide_eq_true_eq] at hrf
 obtain ⟨⟨⟨⟨⟨r1,r2⟩,r3⟩,r4⟩,r5⟩,r6⟩:=hrf
 have hfo:=hok.funcs f hf
 have htg:tgtOK f.blocks:=by
  intro b hb
  have:=List.all_eq_true.1 r6 b hb
  unfold blockOK at this
  simp only [Bool.and_eq_true] at this
  exact tgt_of this.2
 refine ⟨⟨r5,by omega,l1,by omega,htg,by omega,fun b hb x hx=>?_,fun b hb=>treads_fit ((hfo.blocks b hb).term)⟩,⟨r5,by omega,by omega,by omega,fun b hb=>?_,fun b hb x hx=>?_⟩⟩
 ·have h1:=l6 b hb x hx
  have h2:=(hfo.blocks b hb).ins x hx
  exact ⟨by omega,h2.dst,reads_fit h2⟩
 ·have:=sizeS_le hb
  omega
 ·have h1:=l6 b hb x hx
  omega
def DeadR (f f':FuncS):Prop:=∃ bm,CodeS f.regs f.blocks bm∧f'={ f with blocks:=waysS bm }
end Go.Proofs.YtjhloakacicdiaaDoor
namespace Go.AH
variable {P:Program}
section
variable {ops:Array Oper} {draw:Bool} {rs:List Rk} {l:List Oper} {fl:List (Nat × Value)} {nt:Nat} {h:SH} {K:Fr→SH→Prop} {d:Tmp} {ty:TypeId} {pos:String} {af:Array Edge} {gd:Option (Nat × Bool)}
theorem RS.nePtrNil {t e yt:TypeId} {x y:Operand} {A:Option Addr} [hu:TyU P t (.pointer e)] (hw:wantB ops ⟨some d,.binOp .neq t x y yt,ty,pos,af,gd⟩ ⟨fl,nt⟩=some true) (hd:Nat.blt d nt=true)
 (hx:Fr.ev ⟨fl,nt⟩ x=some (.pointer A)) (hy:Fr.ev ⟨fl,nt⟩ y=some (.pointer none))
 (hk:RS P ops draw (recP h.k false [] (some [])::rs) l ⟨(d,.bool (!A.isNone))::fl,nt⟩ h K):RS P ops draw rs (⟨some d,.binOp .neq t x y yt,ty,pos,af,gd⟩::l) ⟨fl,nt⟩ h K :=
 RS.free hw hd (fun a g H=>by
  have:=TX.eqPtrNil (P:=P) (o:=⟨some d,.binOp .neq t x y yt,ty,pos,af,gd⟩) (ev:=a.eval) (h:=H) (op:=.neq) rfl rfl hu.eq (g.ev hx) (g.ev hy)
  simpa using this) (by simp) hk
end
end Go.AH
namespace Go.Proofs.YtjhloakacicdiaaDoor
open Go.AH
attribute [local irreducible] W RS
theorem R_tf (n:Int) (h:Hp):TF Tryd.prog 27 ⟨[.int .i64 n]⟩ h (.agg ⟨[.int .i64 n,.int .i64 0]⟩) h:=by
 refine TF.still (fn:=Tryd.f27) (c:=(Tryd.f27.body.getD .skip)) Tryd.func27 (by kernel_rfl) Tryd.ntmps27 (by kernel_rfl) (by simp) ?_
 conv=>arg 2;whnf
 repeat (first|refine Y28 ?_|refine Y4 ?_|refine Yd ?_|refine Y17 ?_|refine Y0 ?_|refine Y18 ?_|refine Y1 ?_)
 exact endsK_ret _ (.cons (.cellN rfl rfl rfl (Nat.le_of_ble_eq_true rfl)) .nil) ⟨rfl,rfl⟩
def fitT:TermS:=⟨3,0,⟨0,0⟩,⟨0,0⟩,0,0⟩
def fitB:List BlockS:=[⟨[⟨1,1,⟨-1,5⟩,⟨0,0⟩,0,false,false,0,0,[]⟩],fitT⟩]
def fitB1:List BlockS:=[⟨[],fitT⟩]
def fitF:FuncS:=⟨⟨#[109,97,105,110]⟩,0,0,2,[],fitB⟩
def fit14:ProgS:=⟨[fitF],[],0,0⟩
theorem slat_one {α:Type} {h:Hp} {b w:Nat} {cs:List Value} {e:TypeId} {x:α} {R:List Value→α→Prop} (hm:h.m b=some ⟨⟨cs⟩,e⟩) (hl:w≤cs.length) (hR:R (takeV 0 w cs) x):SlAt h (some ⟨b,0,none⟩) w [x] R:=by
 refine ⟨fun i y hy=>?_⟩
 cases i with
 | zero=>simp at hy;subst hy;exact ⟨b,0,cs,e,rfl,hm,by omega,by simpa using hR⟩
 | succ i=>simp at hy
set_option maxRecDepth 100000 in
theorem Short_tf (A1:Option Addr) (n1 c1:Nat) (A2:Option Addr) (n2 c2:Nat) (h:Hp):TF Tryd.prog 38 ⟨[.agg ⟨[.slice A1 n1 c1,.slice A2 n2 c2]⟩]⟩ h (.bool (decide (n1 < 3000) && decide (n2 < 3000))) h:=by
 refine TF.dom fun hd=>?_
 refine TF.still (fn:=Tryd.f38) (c:=(Tryd.f38.body.getD .skip)) Tryd.func38 (by kernel_rfl) Tryd.ntmps38 (by kernel_rfl) (by simp) ?_
 conv=>arg 2;whnf
 repeat' (first|refine Y4u ?_|refine Yf ?_|refine Y8 ?_|refine Yj ?_|refine Y7 ?_|refine Ym ?_|refine Y0 ?_|refine Y18 ?_|refine Y1 ?_|((refine YD ?_ ?_)<;>intro _)|((refine YG ?_ ?_)<;>intro _)|((refine YC ?_ ?_)<;>intro _)|((refine YN ?_ ?_)<;>intro _))
 ·refine endsK_ret _ (.cons (.tmp rfl) .nil) ⟨rfl,?_⟩
  rw [decide_eq_true (by omega:n1 < 3000),Bool.true_and]
  show Value.bool (decide ((n2:Int) < 3000))=_
  congr 1;exact decide_eq_decide.2 (by omega)
 ·refine endsK_ret _ (.cons (.tmp rfl) .nil) ⟨rfl,?_⟩
  rw [decide_eq_false (by omega:¬ n1 < 3000)];rfl
set_option maxRecDepth 100000 in
theorem Nums_tf (a b:List Int) (A1:Option Addr) (c1:Nat) (A2:Option Addr) (c2:Nat) (ha:a.length≤281474976710656) (hb:b.length≤281474976710656) (h:Hp) (s1:SlAt h A1 1 a intR) (s2:SlAt h A2 1 b intR):TF Tryd.prog 32 ⟨[.slice A1 a.length c1,.slice A2 b.length c2]⟩ h (.bool (decide (a=b))) h:=by
 refine TF.dom fun hd=>?_
 refine TF.still (fn:=Tryd.f32) (c:=(Tryd.f32.body.getD .skip)) Tryd.func32 (by kernel_rfl) Tryd.ntmps32 (by kernel_rfl) (by simp) ?_
 conv=>arg 2;whnf
 repeat' (first|refine Y3o ?_|((with_reducible apply RS.cmpNat);iterate 5 exact rfl)|refine Y0 ?_|refine Y27 ?_|refine Y1 ?_|((refine YD ?_ ?_)<;>intro _)|((refine YG ?_ ?_)<;>intro _)|((refine YC ?_ ?_)<;>intro _)|((refine YN ?_ ?_)<;>intro _))
 ·refine endsK_ret _ (.cons (.tmp rfl) .nil) ⟨rfl,?_⟩
  have hne:¬ a.length=b.length:=by simpa using ‹(!decide (a.length=b.length))=true›
  rw [decide_eq_false (fun e=>hne (by rw [e]))];rfl
 ·have heq:a.length=b.length:=by simpa using ‹(!decide (a.length=b.length))=false›
  refine W.loop (X:=Nat) (fun π i=>[(0,.slice A1 a.length c1),(1,.slice A2 b.length c2),(12,.int .i64 a.length),(13,.int .i64 i)]) (fun _=>h) (fun π i=>[]) (fun i=>i≤a.length∧decide (a=b)=decide (a.drop i=b.drop i)) (fun i=>a.length - i) [] 0 ⟨Nat.zero_le _,rfl⟩ (by (refine FitL.mk ?_ ?_ ?_ ?_<;>(repeat' (first|exact trivial|exact rfl|apply And.intro));done)) ?_
  intro π i hI
  obtain ⟨hi,hI⟩:=hI
  dsimp only at hi hI ⊢
  by_cases hlt:i < a.length
  ·obtain ⟨x,hx⟩:∃ g,a[i]?=some g:=⟨_,List.getElem?_eq_getElem hlt⟩
   obtain ⟨y,hy⟩:∃ g,b[i]?=some g:=⟨_,List.getElem?_eq_getElem (by omega)⟩
   obtain ⟨xb,xo,xcs,xe,rfl,hX,hXl,hXv⟩:=s1.get i x hx
   obtain ⟨yb,yo,ycs,ye,rfl,hY,hYl,hYv⟩:=s2.get i y hy
   have hXn:=hd _ _ hX
   have hYn:=hd _ _ hY
   have hXc:=take_nth (j:=0) hXv rfl
   have hYc:=take_nth (j:=0) hYv rfl
   rw [drop_get hx,drop_get hy] at hI
   repeat' (first|refine Y9 ?_|((with_reducible apply RS.load1B);(iterate 3 exact rfl);first|exact hX;exact hXn;exact hXc|exact hY;exact hYn;exact hYc)|refine Ye ?_|refine Y3 ?_|refine Yb ?_|refine Yt ?_|refine Y0 ?_|refine Y13 ?_|refine Y1 ?_|refine Y5 ?_|((refine YD ?_ ?_)<;>intro _)|((refine YG ?_ ?_)<;>intro _)|((refine YC ?_ ?_)<;>intro _)|((refine YN ?_ ?_)<;>intro _))
   ·refine endsK_ret _ (.cons (.tmp rfl) .nil) ⟨rfl,?_⟩
    have hne:¬ x=y:=by simpa using ‹(x != y)=true›
    rw [hI,decide_eq_false (fun e=>hne (by injection e))];rfl
   ·have hxy:x=y:=by simpa using ‹(x != y)=false›
    subst hxy
    exact roundK_n (i+1) [] rfl rfl ⟨by omega,by rw [hI];exact decide_eq_decide.2 (by simp)⟩ (by omega) (by (refine FitL.mk ?_ ?_ ?_ ?_<;>(repeat' (first|exact trivial|exact rfl|apply And.intro));done))
  ·repeat (first|refine Y14 ?_|refine Y2 ?_|refine Y0 ?_|refine Y1l ?_|refine Y1 ?_|refine Y6 ?_|refine Yi ?_)
   rw [List.drop_eq_nil_of_le (by omega),List.drop_eq_nil_of_le (by omega)] at hI
   exact endsK_ret _ (.cons (.tmp rfl) .nil) ⟨rfl,by rw [hI];rfl⟩
theorem light_args {p:ProgS} (hl:lightP p=true):∀ f∈p.funcs,∀ b∈f.blocks,∀ x∈b.ins,x.args.length≤1000000000:=by
 intro f hf b hb x hx
 unfold lightP at hl
 simp only [Bool.and_eq_true,decide_eq_true_eq] at hl
 obtain ⟨_,h6⟩:=hl
 obtain ⟨m,hm⟩:=Option.isSome_iff_exists.1 h6
 obtain ⟨_,_,_,_,l6⟩:=lightF_le hm f hf
 have:=l6 b hb x hx
 omega
def shortN (n1 n2:Nat):Bool:=decide (n1 < 3000) && decide (n2 < 3000)
set_option maxRecDepth 100000 in
theorem small_tf (p:ProgS) (hok:p.ok) (h:Hp) (P1:Option Addr) (d1:Nat) (P2:Option Addr) (d2:Nat) (hfs:SlAt h P1 6 p.funcs (funcR h)) (hgs:SlAt h P2 4 p.globals (globR h)) (A1:Option Addr) (k1 c1:Nat) (A2:Option Addr) (k2 c2:Nat) (A3:Option Addr) (k3 c3:Nat) (A4:Option Addr) (k4 c4:Nat) :
 TF Tryd.prog 9 ⟨[.agg ⟨progC p P1 d1 P2 d2⟩,.agg ⟨[.slice A1 k1 c1,.slice A2 k2 c2]⟩,.agg ⟨[.slice A3 k3 c3,.slice A4 k4 c4]⟩]⟩ h (.bool (lightP p && rightP p && shortN k1 k2 && shortN k3 k4)) h:=by
 refine TF.exact (fn:=Tryd.f9) (c:=(Tryd.f9.body.getD .skip)) Tryd.func9 (by kernel_rfl) Tryd.ntmps9 (by kernel_rfl) (fun s0=>⟨Nat.le_refl _,by simp,fun i b hb=>⟨s0.dom i b hb,s0.bd i b hb⟩⟩) fun π s0=>?_
 conv=>arg 2;whnf
 ((with_reducible apply W.seq);repeat (first|refine Y2r ?_|refine Y0 ?_|refine Y1 ?_|refine Y12 ?_))
 refine W.absorbX fun B0 π0 a0=>?_
 have m0:B0.m (π 0)=some ⟨⟨progC p P1 d1 P2 d2⟩,25⟩:=a0.loc 0 (by decide:(0:Nat) < 3)
 have m1:B0.m (π 1)=some ⟨⟨[.slice A1 k1 c1,.slice A2 k2 c2]⟩,30⟩:=a0.loc 1 (by decide:(1:Nat) < 3)
 have m2:B0.m (π 2)=some ⟨⟨[.slice A3 k3 c3,.slice A4 k4 c4]⟩,30⟩:=a0.loc 2 (by decide:(2:Nat) < 3)
 have n0:=a0.dom _ _ m0
 have n1':=a0.dom _ _ m1
 have n2':=a0.dom _ _ m2
 replace hfs:=hfs.mono a0.up fun _ _ h=>funcR_mono a0.up h
 replace hgs:=hgs.mono a0.up fun _ _ h=>globR_mono a0.up h
 have hargs:=@light_args p
 obtain ⟨s1,hs1⟩:∃ s,(decide (k1 < 3000) && decide (k2 < 3000))=s:=⟨_,rfl⟩
 obtain ⟨s2,hs2⟩:∃ s,(decide (k3 < 3000) && decide (k4 < 3000))=s:=⟨_,rfl⟩
 unfold shortN
 rw [hs1,hs2]
 have hS1:∀ B',TF Tryd.prog 38 ⟨[.agg ⟨[.slice A1 k1 c1,.slice A2 k2 c2]⟩]⟩ B' (.bool s1) B':=by intro B';rw [← hs1];exact Short_tf A1 k1 c1 A2 k2 c2 B'
 have hS2:∀ B',TF Tryd.prog 38 ⟨[.agg ⟨[.slice A3 k3 c3,.slice A4 k4 c4]⟩]⟩ B' (.bool s2) B':=by intro B';rw [← hs2];exact Short_tf A3 k3 c3 A4 k4 c4 B'
 clear hs1 hs2
 generalize hlb:lightP p=lb at *
 cases lb with
 | false =>
  repeat (first|refine Y3m ?_|refine Y1h ?_|refine Ye ?_|refine Y8 ?_|refine Ym ?_|refine Y0 ?_|refine Y18 ?_|refine Y1 ?_)
  exact endsK_ret _ (.cons (.tmp rfl) .nil) fun B' a=>⟨rfl,fun j x hj=>a.up _ _ (a0.up _ _ hj)⟩
 | true =>
  replace hargs:=hargs rfl
  generalize hrb:rightP p=rb at *
  cases rb with
  | false =>
   have hrv:(if rightP p=true then (0:Int) else 50)=50:=by rw [hrb];rfl
   repeat (first|refine Y3m ?_|refine Y1h ?_|refine Y1o ?_|refine Ye ?_|refine Yf ?_|refine Y8 ?_|refine Y2 ?_|refine Ym ?_|refine Y0 ?_|refine Y18 ?_|refine Y1 ?_)
   exact endsK_ret _ (.cons (.tmp rfl) .nil) fun B' a=>⟨rfl,fun j x hj=>a.up _ _ (a0.up _ _ hj)⟩
  | true =>
   have hrv:(if rightP p=true then (0:Int) else 50)=0:=by rw [hrb];rfl
   cases s1 with
   | false =>
    repeat (first|((with_reducible apply RS.loadNB);(iterate 3 exact rfl);first|exact m0;exact n0;exact Nat.le_of_ble_eq_true rfl;exact (show takeV 0 4 (progC p P1 d1 P2 d2)=progC p P1 d1 P2 d2 from rfl)|exact m1;exact n1';exact Nat.le_of_ble_eq_true rfl;exact (show takeV 0 2 [Value.slice A1 k1 c1,.slice A2 k2 c2]=[Value.slice A1 k1 c1,.slice A2 k2 c2] from rfl))|refine Y1h ?_|refine Y1o ?_|((with_reducible apply (RS.callA (g0:=38)));(iterate 3 exact rfl);exact fun B' hB'=>hS1 B')|refine Ye ?_|refine Yf ?_|refine Y8 ?_|refine Yj ?_|refine Ym ?_|refine Y0 ?_|refine Y18 ?_|refine Y1 ?_)
    exact endsK_ret _ (.cons (.tmp rfl) .nil) fun B' a=>⟨rfl,fun j x hj=>a.up _ _ (a0.up _ _ hj)⟩
   | true =>
    cases s2 with
    | false =>
     repeat (first|refine Y1m ?_|refine Y1h ?_|refine Y1o ?_|refine Y4t ?_|refine Ye ?_|refine Yf ?_|refine Yj ?_|refine Y0 ?_|refine Y18 ?_|refine Y1 ?_)
     exact endsK_ret _ (.cons (.tmp rfl) .nil) fun B' a=>⟨rfl,fun j x hj=>a.up _ _ (a0.up _ _ hj)⟩
    | true =>
     repeat (first|refine Y1m ?_|refine Y1h ?_|refine Y1o ?_|refine Y4t ?_|refine Ye ?_|refine Yf ?_|refine Yj ?_|refine Y0 ?_|refine Y18 ?_|refine Y1 ?_)
     exact endsK_ret _ (.cons (.tmp rfl) .nil) fun B' a=>⟨rfl,fun j x hj=>a.up _ _ (a0.up _ _ hj)⟩
structure WaysOK (bl w:List BlockS):Prop where
 pos:0 < w.length
 le:w.length≤bl.length
 ok:∀ (i:Nat) (b:BlockS),w[i]?=some b→hasS (reachedS w) i=true∧¬ (b.term.kind=2∧b.term.goto=b.term.els)
 tgt:tgtOK w
inductive Reach (bl:List BlockS):Int→Prop
 | zero:Reach bl 0
 | step {k k':Int} (h:Reach bl k) (hn:k'∈nextAt bl k):Reach bl k'
structure ReachV (bl:List BlockS) (s:SetS) (w:List Int):Prop where
 len:bl.length≤s.length * 64
 sound:∀ k:Int,0≤k→k < bl.length→hasS s k=true→Reach bl k
 work:∀ x∈w,0≤x∧x < bl.length∧hasS s x=true
 done:∀ k:Int,0≤k→k < bl.length→hasS s k=true→k∈w∨∀ k'∈nextAt bl k,hasS s k'=true
def NoEq (b:BlockS):Prop:=¬ (b.term.kind=2∧b.term.goto=b.term.els)
structure MeltV (n:Nat) (bl:List BlockS):Prop where
 ne:∀ b∈bl,NoEq b
 tgt:tgtOK bl
 len:bl.length=n
def posL (r:SetS) (bl:List BlockS) (k:Nat):Nat:=(keptL r 0 (bl.take k)).length
end Go.Proofs.YtjhloakacicdiaaDoor
