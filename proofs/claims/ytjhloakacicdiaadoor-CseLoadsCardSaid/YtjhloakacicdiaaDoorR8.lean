/-
  What the functions that the law reaches compute,told by plain data;it holds of programs that pass the check of right form and are light.
-/
import Derived.Test.YtjhloakacicdiaaDoorR7
import Derived.Test.YtjhloakacicdiaaDoorS2
set_option linter.unusedVariables false
set_option linter.unusedSimpArgs false
namespace Go.Proofs.YtjhloakacicdiaaDoor
open Go.AH
attribute [local irreducible] W RS
def LessL (bl bl':List BlockS):Prop:=bl'.length=bl.length∧∀ (i:Nat) (b b':BlockS),bl[i]?=some b→bl'[i]?=some b'→b'.term=b.term∧b'.ins.Sublist b.ins
structure OkL (regs:Int) (bl:List BlockS):Prop where
 pos:0 < bl.length
 len:bl.length≤100000
 r0:0≤regs
 r1:regs≤1000000
 tgt:tgtOK bl
 size:sizeS bl≤1000000
 fit:∀ b∈bl,∀ x∈b.ins,x.args.length≤1000000∧fitI x.dst∧∀ a∈readsS x,fitI a.reg
 tfit:∀ b∈bl,∀ a∈treadsS b.term,fitI a.reg
theorem sizeS_le {bl:List BlockS} {b:BlockS} (h:b∈bl):b.ins.length≤sizeS bl:=by
 induction bl with
 | nil=>cases h
 | cons c bl ih =>
  unfold sizeS at ih ⊢
  simp only [List.map_cons,List.sum_cons]
  rcases List.mem_cons.1 h with e|e
  ·subst e;omega
  ·have:=ih e;omega
def funcRS (h:Hp) (cs:List Value) (f:FuncS):Prop:=∃ A1 c1 A2 c2 A3 c3 sec,cs=funcC f A1 c1 A2 c2 A3 c3∧sec.length=f.secret∧SlAt h A1 1 sec boolR∧SlAt h A2 1 f.slots intR∧SlAt h A3 9 f.blocks (blockR h)
theorem funcRS_mono {h H:Hp} (hm:∀ i b,h.m i=some b→H.m i=some b) {cs:List Value} {f:FuncS} (r:funcRS h cs f):funcRS H cs f:=by
 obtain ⟨A1,c1,A2,c2,A3,c3,sec,e,h0,s,t,u⟩:=r
 exact ⟨A1,c1,A2,c2,A3,c3,sec,e,h0,s.mono hm fun _ _ h=>h,t.mono hm fun _ _ h=>h,u.mono hm fun _ _ h=>blockR_mono hm h⟩
theorem funcRS.r {h:Hp} {cs:List Value} {f:FuncS} (r:funcRS h cs f):funcR h cs f:=by
 obtain ⟨A1,c1,A2,c2,A3,c3,sec,e,h0,s,t,u⟩:=r
 exact ⟨A1,c1,A2,c2,A3,c3,e,t,u⟩
theorem funcRS.len {h:Hp} {cs:List Value} {f:FuncS} (r:funcRS h cs f):cs.length=6:=by
 obtain ⟨A1,c1,A2,c2,A3,c3,sec,e,_⟩:=r
 rw [e];rfl
structure CopyOK (f:FuncS):Prop where
 pos:0 < f.blocks.length
 sec:f.secret≤1000000
 slots:f.slots.length≤1000000
 len:f.blocks.length≤100000
 ins:∀ b∈f.blocks,b.ins.length≤1000000
 args:∀ b∈f.blocks,∀ x∈b.ins,x.args.length≤1000000
def cutE (h:Hp):Hp where
 m i:=match h.m i with
  | some b=>if b.elem=37∨b.elem=25 then none else some b
  | none=>none
 n:=h.n
theorem cutE_get {h:Hp} {i:Nat} {b:Blk} (hb:(cutE h).m i=some b):h.m i=some b∧b.elem≠37∧b.elem≠25:=by
 unfold cutE at hb
 simp only at hb
 cases hm:h.m i with
 | none=>rw [hm] at hb;cases hb
 | some c =>
  rw [hm] at hb
  simp only at hb
  split at hb
  ·cases hb
  ·rename_i hn
   injection hb with hb
   subst hb
   rw [not_or] at hn
   exact ⟨rfl,hn⟩
theorem cutE_in {h:Hp} {i:Nat} {b:Blk} (hb:h.m i=some b) (h1:b.elem≠37) (h2:b.elem≠25):(cutE h).m i=some b:=by
 unfold cutE
 simp only [hb]
 rw [if_neg (by rw [not_or];exact ⟨h1,h2⟩)]
theorem cutE_mono {h H:Hp} (hm:∀ i b,h.m i=some b→b.elem≠37→b.elem≠25→H.m i=some b):∀ i b,(cutE h).m i=some b→(cutE H).m i=some b:=fun i b hb=>by
 obtain ⟨h1,h2,h3⟩:=cutE_get hb
 exact cutE_in (hm i b h1 h2 h3) h2 h3
theorem cutE_le {h:Hp}:∀ i b,(cutE h).m i=some b→h.m i=some b:=fun _ _ hb=>(cutE_get hb).1
theorem OwnB.cut {h:Hp} {bb:Nat} {bv:List BV} (o:OwnB h bb bv):OwnB (cutE h) bb bv :=
 ⟨o.rw,cutE_in o.m (by simp) (by simp),fun b hb hn=>⟨(o.row b hb hn).1,cutE_in (o.row b hb hn).2 (by simp) (by simp)⟩,fun b hb x hx hn=>⟨(o.arg b hb x hx hn).1,cutE_in (o.arg b hb x hx hn).2 (by simp) (by simp)⟩,o.sep⟩
def TurnEX (g:FuncId) (K:FuncS→Prop) (R:FuncS→FuncS→Prop):Prop:=∀ (B:Hp) (N bb:Nat) (bv:List BV) (f:FuncS) (A1:Option Addr) (c1:Nat) (A2:Option Addr) (c2:Nat) (sec:List Bool),K f→sec.length=f.secret→rwM≤N→N≤bb→B.m bb=some ⟨⟨(bv.map BV.c).flatten⟩,50⟩→OwnD B N bv→sL bv=f.blocks→RowE B N 4 A1 sec .bool→RowE B N 3 A2 f.slots (.int .i64) →
 EX Tryd.prog g [.agg ⟨funcC f A1 c1 A2 c2 (some ⟨bb,0,none⟩) (capOf 9)⟩] B (fun v h'=>∃ f' cs,v=.agg ⟨cs⟩∧funcRS (cutE h') cs f'∧R f f'∧OffS (fun i=>N≤i) B h')
theorem Absb.part {P:Program} {B B2 H B':Hp} {π:Nat→Nat} {k:Nat} {l l2:List (Nat × Option Blk)} {k2:Nat} (hden:(⟨B,π,k,l⟩:SH).den=H) (hn:B2.n=B.n) (hk:k≤k2) (hl:∀ i,i < k→lookB l2 i=lookB l i) (a:Absb (P:=P) ⟨B2,π,k2,l2⟩ B'):∀ i b,B.n≤i→H.m i=some b→B'.m i=some b:=by
 intro i b hi hb
 rw [← hden] at hb
 simp only [SH.den] at hb
 rw [if_neg (by omega)] at hb
 cases hx:idx π k i with
 | none=>rw [hx] at hb;cases hb
 | some j =>
  rw [hx] at hb
  obtain ⟨g1,g2⟩:=idx_some hx
  have:B'.m (π j)=lookB l2 j:=a.loc j (show j < k2 by omega)
  rw [g2] at this
  rw [this,hl j g1];exact hb
structure EachI (h:Hp) (ob:Nat) (p:ProgS) (A2:Option Addr) (c2:Nat) (R:FuncS→FuncS→Prop) (i r:Nat) (L:List (List Value)) (fs:List FuncS) (B:Hp):Prop where
 le:i≤p.funcs.length
 old:Old h B
 o:B.m ob=some ⟨⟨[rowVl 6 r L,.slice A2 p.globals.length c2,.int .i64 p.data,.int .i64 p.main]⟩,25⟩
 row:L≠[]→h.n≤r∧B.m r=some ⟨⟨L.flatten⟩,37⟩
 len:L.length=i
 flen:fs.length=i
 at_:∀ (j:Nat) (c:List Value) (f':FuncS),L[j]?=some c→fs[j]?=some f'→funcRS (cutE B) c f'
 rel:∀ (j:Nat) (f f':FuncS),p.funcs[j]?=some f→fs[j]?=some f'→R f f'
theorem EachI.up {h:Hp} {ob:Nat} {p:ProgS} {A2:Option Addr} {c2:Nat} {R:FuncS→FuncS→Prop} {i r:Nat} {L:List (List Value)} {fs:List FuncS} {B B':Hp} (s:EachI h ob p A2 c2 R i r L fs B) (hd:∀ i x,B.m i=some x→i < B.n) (o:Old B B'):EachI h ob p A2 c2 R i r L fs B' :=
 ⟨s.le,s.old.trans o,o.up hd _ _ s.o,fun hn=>⟨(s.row hn).1,o.up hd _ _ (s.row hn).2⟩,s.len,s.flen,fun j c f' h1 h2=>funcRS_mono (cutE_mono fun i b hb _ _=>o.up hd i b hb) (s.at_ j c f' h1 h2),s.rel⟩
theorem EachI.wid {h:Hp} {ob:Nat} {p:ProgS} {A2:Option Addr} {c2:Nat} {R:FuncS→FuncS→Prop} {i r:Nat} {L:List (List Value)} {fs:List FuncS} {B:Hp} (s:EachI h ob p A2 c2 R i r L fs B):∀ c∈L,c.length=6:=by
 intro c hc
 obtain ⟨j,hj⟩:=List.mem_iff_getElem?.1 hc
 have hl:=(List.getElem?_eq_some_iff.1 hj).1
 have hll:=s.len
 have hfl:=s.flen
 obtain ⟨f',hf⟩:∃ f',fs[j]?=some f':=⟨_,List.getElem?_eq_getElem (by omega)⟩
 exact (s.at_ j c f' hj hf).len
theorem each_close {h C B2 H7 B':Hp} {ob:Nat} {p:ProgS} {A2:Option Addr} {c2:Nat} {R:FuncS→FuncS→Prop} {i r k7:Nat} {L:List (List Value)} {fs:List FuncS} {π2:Nat→Nat} {l7:List (Nat × Option Blk)} {y:Option Blk} {f f':FuncS} {cs:List Value}
 (hIC:EachI h ob p A2 c2 R i r L fs C) (hdC:∀ i x,C.m i=some x→i < C.n) (hob:h.n≤ob) (hf:p.funcs[i]?=some f) (hden7:(⟨C,π2,k7,l7⟩:SH).den=H7) (hF7:funcRS (cutE H7) cs f') (hRf:R f f') (hn:B2.n=C.n)
 (ho:B2.m ob=some ⟨⟨[rowVl 6 (π2 (k7+1)) (L++[cs]),.slice A2 p.globals.length c2,.int .i64 p.data,.int .i64 p.main]⟩,25⟩) (hB2:∀ j,j≠ob→(L≠[]→j≠r)→B2.m j=C.m j)
 (a:Absb (P:=Tryd.prog) ⟨B2,π2,k7+1+1,(k7+1,some ⟨⟨(L++[cs]).flatten⟩,37⟩)::(k7,y)::l7⟩ B'):EachI h ob p A2 c2 R (i+1) (π2 (k7+1)) (L++[cs]) (fs++[f']) B':=by
 have hil:=(List.getElem?_eq_some_iff.1 hf).1
 have hle:B2.n≤B'.n:=a.le
 have hCo:=hdC _ _ hIC.o
 have keep:∀ i b,C.m i=some b→b.elem≠37→b.elem≠25→B'.m i=some b:=by
  intro j b hb h1 h2
  have hj:=hdC j b hb
  have:B'.m j=B2.m j:=a.old j (show j < B2.n by omega)
  rw [this,hB2 j (ne_of_elem hb hIC.o h2) fun hn=>ne_of_elem hb (hIC.row hn).2 h1]
  exact hb
 have hold:=hIC.old.1
 refine ⟨hil,⟨by omega,fun j hj=>?_⟩,?_,fun _=>⟨?_,?_⟩,by simp [hIC.len],by simp [hIC.flen],fun j c g h1 h2=>?_,fun j x g h1 h2=>?_⟩
 ·have:B'.m j=B2.m j:=a.old j (show j < B2.n by omega)
  rw [this,hB2 j (by omega) fun hn=>by have:=(hIC.row hn).1;omega]
  exact hIC.old.2 j hj
 ·have:B'.m ob=B2.m ob:=a.old ob (show ob < B2.n by omega)
  rw [this];exact ho
 ·have:B2.n≤π2 (k7+1):=a.lo (k7+1) (show k7+1 < k7+1+1 by omega)
  omega
 ·have:B'.m (π2 (k7+1))=lookB ((k7+1,some ⟨⟨(L++[cs]).flatten⟩,37⟩)::(k7,y)::l7) (k7+1):=a.loc (k7+1) (show k7+1 < k7+1+1 by omega)
  rw [this,look_cons,if_pos rfl]
 ·have hll:=hIC.len
  have hfl:=hIC.flen
  by_cases hj:j < L.length
  ·rw [List.getElem?_append_left hj] at h1
   rw [List.getElem?_append_left (by omega)] at h2
   exact funcRS_mono (cutE_mono keep) (hIC.at_ j c g h1 h2)
  ·have hjl:j < (L++[cs]).length:=(List.getElem?_eq_some_iff.1 h1).1
   have hje:j=L.length:=by simp at hjl;omega
   rw [List.getElem?_append_right (by omega),hje,Nat.sub_self] at h1
   rw [List.getElem?_append_right (by omega),show j - fs.length=0 by omega] at h2
   simp only [List.getElem?_cons_zero,Option.some.injEq] at h1 h2
   subst h1;subst h2
   refine funcRS_mono (cutE_mono fun q b hb e1 e2=>?_) hF7
   by_cases hq:q < C.n
   ·refine keep q b ?_ e1 e2
    rw [← hden7] at hb
    simp only [SH.den] at hb
    rw [if_pos hq] at hb
    exact hb
   ·refine Absb.part hden7 hn (show k7≤k7+1+1 by omega) (fun z hz=>?_) a q b (by omega) hb
    rw [look_cons,if_neg (show ¬ k7+1=z by omega),look_cons,if_neg (show ¬ k7=z by omega)]
 ·have hfl:=hIC.flen
  by_cases hj:j < fs.length
  ·rw [List.getElem?_append_left hj] at h2
   exact hIC.rel j x g h1 h2
  ·have hjl:j < (fs++[f']).length:=(List.getElem?_eq_some_iff.1 h2).1
   have hje:j=fs.length:=by simp at hjl;omega
   rw [List.getElem?_append_right (by omega),hje,Nat.sub_self] at h2
   rw [hje,hfl,hf] at h1
   simp only [List.getElem?_cons_zero,Option.some.injEq] at h1 h2
   subst h1;subst h2
   exact hRf
theorem lookHd (k:Nat) (b:Option Blk) (l:List (Nat × Option Blk)):lookB ((k,b)::l) k=b:=by rw [look_cons,if_pos rfl]
set_option maxRecDepth 100000 in
theorem each_ex (g:FuncId) [hgf:GF Tryd.prog g] (K:FuncS→Prop) (R:FuncS→FuncS→Prop) (ht:TurnEX g K R) (p:ProgS) (hK:∀ f∈p.funcs,K f∧CopyOK f) (hn:p.funcs.length≤100000) (h:Hp) (pb:Nat) (e:TypeId) (A1:Option Addr) (c1:Nat) (A2:Option Addr) (c2:Nat) (hP:h.m pb=some ⟨⟨progC p A1 c1 A2 c2⟩,e⟩) (hs:SlAt h A1 6 p.funcs (funcRS h)) :
 EX Tryd.prog 23 [.pointer (some ⟨pb,0,none⟩),.func (.func g) #[] #[]] h (fun v h'=>∃ ob A c fs,v=.pointer (some ⟨ob,0,none⟩)∧h'.m ob=some ⟨⟨progC { p with funcs:=fs } A c A2 c2⟩,25⟩∧SlAt h' A 6 fs (funcRS h')∧fs.length=p.funcs.length∧(∀ (i:Nat) (f f':FuncS),p.funcs[i]?=some f→fs[i]?=some f'→R f f')∧Old h h'∧h.n≤ob):=by
 refine EX.intro (fn:=Tryd.f23) (c:=(Tryd.f23.body.getD .skip)) Tryd.func23 (by kernel_rfl) Tryd.ntmps23 (by kernel_rfl) fun π s0=>?_
 conv=>arg 2;whnf
 have hd:=s0.dom
 have hPn:=hd _ _ hP
 ((with_reducible apply W.seq);repeat (first|refine Y15 ?_|refine Y0 ?_|refine Y1 ?_|refine Y13 ?_))
 ((with_reducible apply W.seq);repeat (fail))
 ((with_reducible apply W.seq);repeat (first|((with_reducible apply RS.eqPtrNil);iterate 4 exact rfl)|refine Y25 ?_|refine Y0 ?_|refine Y1 ?_|refine Y30 ?_|refine Y6 ?_))
 ((with_reducible apply W.seq);repeat (first|((with_reducible apply RS.loadNB);(iterate 3 exact rfl);exact hP;exact hPn;exact Nat.le_of_ble_eq_true rfl;exact rfl)|((with_reducible first|apply RS.nilCheck|apply RS.move);iterate 3 exact rfl)|refine Y4 ?_|refine Yf ?_|refine Y0 ?_|refine Y1 ?_|refine Y13 ?_))
 ((with_reducible apply W.seq);repeat (first|refine Y42 ?_|refine Y4 ?_|refine Y0 ?_|refine Y1 ?_|refine Y13 ?_))
 refine W.absorbX fun B0 π0 a0=>?_
 have hO0:B0.m (π 0)=some ⟨⟨[.slice none 0 0,.slice A2 p.globals.length c2,.int .i64 p.data,.int .i64 p.main]⟩,25⟩:=a0.loc 0 (Nat.lt_succ_self 0)
 have hob:h.n≤π 0:=a0.lo 0 (Nat.lt_succ_self 0)
 generalize π 0=ob at *
 have hobr:rwM≤ob:=Nat.le_trans s0.rw hob
 replace hP:=a0.up _ _ hP
 replace hPn:=a0.dom _ _ hP
 ((with_reducible apply W.seq);repeat (fail))
 ((with_reducible apply W.seq);repeat (first|((with_reducible apply RS.load1B);(iterate 3 exact rfl);exact hP;exact hPn;exact rfl)|refine Y2a ?_|refine Y0 ?_|refine Y1 ?_|refine Y3u ?_))
 refine W.loopN (X:=Nat × Nat × List (List Value) × List FuncS) (fun x=>[(1,.func (.func g) #[] #[]),(5,.pointer (some ⟨ob,0,none⟩)),(17,.slice A1 p.funcs.length c1),(18,.int .i64 (p.funcs.length:Int)),(19,.int .i64 (x.1:Int))])
  (fun x B=>EachI h ob p A2 c2 R x.1 x.2.1 x.2.2.1 x.2.2.2 B) (fun x=>p.funcs.length - x.1)
  (fun B' a=>⟨(0,0,[],[]),?_,⟨Nat.zero_le _,a0.oldH.trans a.oldH,a.up _ _ hO0,fun hn=>absurd rfl hn,rfl,rfl,(fun j c f' h=>by simp at h),(fun j f f' _ h=>by simp at h)⟩⟩) ?_
 ·(repeat' (first|exact trivial|exact rfl|apply And.intro));done
 rintro ⟨i,r,L,fs⟩ B π1 sB hI
 dsimp only at hI ⊢
 have hi:=hI.le
 have hO:=hI.o
 have hOn:=sB.dom _ _ hO
 by_cases hlt:i < p.funcs.length
 ·obtain ⟨f,hf⟩:∃ f,p.funcs[i]?=some f:=⟨_,List.getElem?_eq_getElem hlt⟩
  obtain ⟨hKf,hC⟩:=hK f (List.mem_of_getElem? hf)
  obtain ⟨gb,go,gcs,ge,rfl,hG0,hGl,hGr⟩:=hs.get i f hf
  have hG:=hI.old.up hd _ _ hG0
  have hGn:=sB.dom _ _ hG
  obtain ⟨B1,d1,B2,d2,B3,d3,sec,hGv,hsec,hsS,hsL,hsB⟩:=hGr
  have hsS:=hsS.mono (hI.old.up hd) fun _ _ h=>h
  have hsL:=hsL.mono (hI.old.up hd) fun _ _ h=>h
  have hsB:=hsB.mono (hI.old.up hd) fun _ _ h=>blockR_mono (hI.old.up hd) h
  ((with_reducible apply W.seq);repeat (first|refine Y3 ?_|refine Y0 ?_|refine Y1 ?_|refine Y13 ?_))
  ((with_reducible apply W.seq);repeat (first|refine Y30 ?_|refine Y5 ?_))
  ((with_reducible apply W.seq);repeat (first|(with_reducible apply W.block)))
  ((with_reducible apply W.seq);((with_reducible apply W.reg);kernel_rfl);repeat (first|refine Ya ?_|refine Y1t ?_|refine Y4 ?_|refine Yf ?_|refine Y0 ?_));(with_reducible apply thenK_n)
  refine W.absorbX fun C π2 a2=>?_
  have hq:C.m (π1 0)=some ⟨⟨funcC f B1 d1 B2 d2 B3 d3⟩,37⟩:=a2.loc 0 (Nat.lt_succ_self 0)
  generalize π1 0=q at *
  have hqn:=a2.dom _ _ hq
  have hIC:=hI.up sB.dom a2.oldH
  have hOC:=hIC.o
  have hOCn:=a2.dom _ _ hOC
  replace hsS:=hsS.mono a2.up fun _ _ h=>h
  replace hsL:=hsL.mono a2.up fun _ _ h=>h
  replace hsB:=hsB.mono a2.up fun _ _ h=>blockR_mono a2.up h
  by_cases hLe:L=[]
  ·subst hLe
   repeat (first|((with_reducible apply RS.load1X);(iterate 3 exact rfl);exact hOC;exact hOCn;exact rfl)|refine Y4n ?_|((with_reducible apply (RS.callY (g0:=12)));(iterate 4 exact rfl);intro B4 he4 hB4;refine ⟨_,copy_ex B4 f B1 d1 B2 d2 B3 d3 sec hsec (hsS.mono hB4.up fun _ _ h=>h) (hsL.mono hB4.up fun _ _ h=>h) (hsB.mono hB4.up fun _ _ h=>blockR_mono hB4.up h) hC.pos hC.sec hC.slots hC.len hC.ins hC.args,(fun v H' ⟨_,_,_,_,_,_,_,_,_,_,_,ho,_,_⟩ i hi=>ho.2 i (Nat.lt_of_lt_of_le hi hB4.le)),?_⟩;rintro v H5 k5 l5 ⟨A1',c1',A2',c2',bb,bv,rfl,hm5,hbb5,hod5,hsl5,ho5,hr1,hr2⟩ sH5 hle5 hden5 hwf5 hk5)|((with_reducible apply (RS.callY (g0:=g)));(iterate 4 exact rfl);intro B6 he6 hB6;rw [hden5] at he6;subst he6;refine ⟨_,ht H5 B4.n bb bv f A1' c1' A2' c2' sec hKf hsec (Nat.le_trans hB4.rw hB4.le) hbb5 hm5 hod5 hsl5 hr1 hr2,(fun v H' ⟨_,_,_,_,_,ho⟩ i hi=>ho.2 i (Nat.lt_of_lt_of_le hi hB6.le) (fun e=>absurd (Nat.le_trans hB4.le e) (Nat.not_le.2 hi))),?_⟩;rintro v H7 k7 l7 ⟨f',cs,rfl,⟨E1,e1,E2,e2,E3,e3,sec',rfl,hF7b⟩,hRf,ho7⟩ sH7 hle7 hden7 hwf7 hk7;have hF7:funcRS (cutE H7) (funcC f' E1 e1 E2 e2 E3 e3) f':=⟨E1,e1,E2,e2,E3,e3,sec',rfl,hF7b⟩)|refine Yi ?_|((with_reducible apply RS.appendNil);(iterate 6 exact rfl);exact blt_iff.2 (Nat.lt_succ_self _);exact lookHd _ _ _;exact Nat.le_of_ble_eq_true rfl;exact Nat.zero_lt_one;decide;decide)|((with_reducible apply (RS.nilP mixed [(1,2),(0,2),(2,3),(1,3),(0,3),(2,4),(1,4),(0,4),(1,5),(0,5),(1,6),(0,6)]));kernel_rfl;(repeat (refine ⟨fun x y hx hy=>(by obtain rfl:=Option.some.inj hx;obtain rfl:=Option.some.inj hy;exact pairR_free rfl rfl rfl rfl rfl rfl rfl (Nat.zero_le _) rfl),?_⟩));exact trivial;exact rfl)|((with_reducible apply RS.storeB);(iterate 3 exact rfl);exact hOC;exact hOCn;exact hobr;exact Nat.le_of_ble_eq_true rfl;iterate 3 exact rfl)|refine Y16 ?_|refine Yd ?_|refine Y0 ?_|refine Y1 ?_|(with_reducible first|apply thenK_n|apply blockK_n))
   refine roundN_n rfl fun B' a=>⟨(i+1,π2 (k7+1),[funcC f' E1 e1 E2 e2 E3 e3],fs++[f']),?_,?_,?_⟩
   ·(repeat' (first|exact trivial|exact rfl|apply And.intro));done
   ·refine each_close hIC a2.dom hob hf hden7 hF7 hRf (by rfl) (by show (if ob=ob then _ else _)=_;rw [if_pos rfl];rfl) (fun j hj _=>by show (if j=ob then _ else C.m j)=_;rw [if_neg hj]) a
   ·show p.funcs.length - (i+1) < p.funcs.length - i
    omega
  ·have hrv:=rowVl_ne (sz:=6) (r:=r) hLe
   rw [hrv] at hOC
   obtain ⟨hrh,hrC⟩:=hIC.row hLe
   have hrCn:=a2.dom _ _ hrC
   have hrCw:rwM≤r:=Nat.le_trans s0.rw hrh
   have hLl:L.flatten.length=L.length * 6:=flat_len hI.wid
   have hLi:=hI.len
   have hrob:ob≠r:=ne_of_elem hOC hrC (by simp)
   have hOCk:(C.kill r).m ob=some ⟨⟨[.slice (some ⟨r,0,none⟩) L.length (capOf 6),.slice A2 p.globals.length c2,.int .i64 p.data,.int .i64 p.main]⟩,25⟩:=by
    show (if ob=r then none else C.m ob)=_
    rw [if_neg hrob];exact hOC
   repeat (first|((with_reducible apply RS.load1X);(iterate 3 exact rfl);exact hOC;exact hOCn;exact rfl)|refine Y4n ?_|((with_reducible apply (RS.callY (g0:=12)));(iterate 4 exact rfl);intro B4 he4 hB4;refine ⟨_,copy_ex B4 f B1 d1 B2 d2 B3 d3 sec hsec (hsS.mono hB4.up fun _ _ h=>h) (hsL.mono hB4.up fun _ _ h=>h) (hsB.mono hB4.up fun _ _ h=>blockR_mono hB4.up h) hC.pos hC.sec hC.slots hC.len hC.ins hC.args,(fun v H' ⟨_,_,_,_,_,_,_,_,_,_,_,ho,_,_⟩ i hi=>ho.2 i (Nat.lt_of_lt_of_le hi hB4.le)),?_⟩;rintro v H5 k5 l5 ⟨A1',c1',A2',c2',bb,bv,rfl,hm5,hbb5,hod5,hsl5,ho5,hr1,hr2⟩ sH5 hle5 hden5 hwf5 hk5)|((with_reducible apply (RS.callY (g0:=g)));(iterate 4 exact rfl);intro B6 he6 hB6;rw [hden5] at he6;subst he6;refine ⟨_,ht H5 B4.n bb bv f A1' c1' A2' c2' sec hKf hsec (Nat.le_trans hB4.rw hB4.le) hbb5 hm5 hod5 hsl5 hr1 hr2,(fun v H' ⟨_,_,_,_,_,ho⟩ i hi=>ho.2 i (Nat.lt_of_lt_of_le hi hB6.le) (fun e=>absurd (Nat.le_trans hB4.le e) (Nat.not_le.2 hi))),?_⟩;rintro v H7 k7 l7 ⟨f',cs,rfl,⟨E1,e1,E2,e2,E3,e3,sec',rfl,hF7b⟩,hRf,ho7⟩ sH7 hle7 hden7 hwf7 hk7;have hF7:funcRS (cutE H7) (funcC f' E1 e1 E2 e2 E3 e3) f':=⟨E1,e1,E2,e2,E3,e3,sec',rfl,hF7b⟩)|refine Yi ?_|((with_reducible apply RS.growL);(iterate 6 exact rfl);exact hrC;exact hrCn;exact hrCw;exact hLl;exact Nat.lt_succ_self _;exact lookHd _ _ _;(iterate 2 exact rfl);omega;omega)|((with_reducible apply (RS.nilP mixed [(1,2),(0,2),(2,3),(1,3),(0,3),(2,4),(1,4),(0,4),(1,5),(0,5),(1,6),(0,6)]));kernel_rfl;(repeat (refine ⟨fun x y hx hy=>(by obtain rfl:=Option.some.inj hx;obtain rfl:=Option.some.inj hy;exact pairR_free rfl rfl rfl rfl rfl rfl rfl (Nat.zero_le _) rfl),?_⟩));exact trivial;exact rfl)|((with_reducible apply RS.storeB);(iterate 3 exact rfl);exact hOCk;exact hOCn;exact hobr;exact Nat.le_of_ble_eq_true rfl;iterate 3 exact rfl)|refine Y16 ?_|refine Yd ?_|refine Y0 ?_|refine Y1 ?_|(with_reducible first|apply thenK_n|apply blockK_n))
   have hrv2:rowVl 6 (π2 (k7+1)) (L++[funcC f' E1 e1 E2 e2 E3 e3])=.slice (some ⟨π2 (k7+1),0,none⟩) (L.length+1) (capOf 6):=by rw [rowVl_ne (by simp)];simp
   have hfl2:(L++[funcC f' E1 e1 E2 e2 E3 e3]).flatten=L.flatten++funcC f' E1 e1 E2 e2 E3 e3:=by simp
   refine roundN_n rfl fun B' a=>⟨(i+1,π2 (k7+1),L++[funcC f' E1 e1 E2 e2 E3 e3],fs++[f']),?_,?_,?_⟩
   ·(repeat' (first|exact trivial|exact rfl|apply And.intro));done
   ·refine each_close (L:=L) (B2:=(C.kill r).set ob ⟨⟨[.slice (some ⟨π2 (k7+1),0,none⟩) (L.length+1) (capOf 6),.slice A2 p.globals.length c2,.int .i64 p.data,.int .i64 p.main]⟩,25⟩) hIC a2.dom hob hf hden7 hF7 hRf (by rfl) (by rw [hrv2];show (if ob=ob then _ else _)=_;rw [if_pos rfl]) (fun j hj hjr=>by show (if j=ob then _ else (if j=r then none else C.m j))=_;rw [if_neg hj,if_neg (hjr hLe)]) (by rw [hfl2];exact a)
   ·show p.funcs.length - (i+1) < p.funcs.length - i
    omega
 ·have hii:i=p.funcs.length:=by omega
  have hll:=hI.len
  have hfl:=hI.flen
  obtain ⟨A,hA⟩:∃ A:Option Addr,A=if L=[] then none else some ⟨r,0,none⟩:=⟨_,rfl⟩
  obtain ⟨c,hc⟩:∃ c:Nat,c=if L=[] then 0 else capOf 6:=⟨_,rfl⟩
  rw [rowVl_eq,← hA,← hc,show L.length=fs.length by omega] at hO
  repeat (first|refine Y15 ?_|refine Y2 ?_|refine Y0 ?_|refine Y1x ?_|refine Y1 ?_|refine Y6 ?_|refine Yl ?_)
  refine endsK_ret _ (.cons (.tmp rfl) .nil) fun B' a=>⟨ob,A,c,fs,rfl,a.up _ _ hO,⟨fun j f' hf'=>?_⟩,by omega,hI.rel,hI.old.trans a.oldH,hob⟩
  have hj:=(List.getElem?_eq_some_iff.1 hf').1
  obtain ⟨cs,hcs⟩:∃ cs,L[j]?=some cs:=⟨_,List.getElem?_eq_getElem (by omega)⟩
  have hne:L≠[]:=by intro e;rw [e] at hcs;simp at hcs
  rw [if_neg hne] at hA
  obtain ⟨t1,t2⟩:=flat_take hI.wid hcs
  refine ⟨r,0,L.flatten,37,hA,a.up _ _ (hI.row hne).2,by omega,?_⟩
  rw [Nat.zero_add,t1]
  exact funcRS_mono (fun i b hb=>a.up _ _ (cutE_le i b hb)) (hI.at_ j cs f' hcs hf')
end Go.Proofs.YtjhloakacicdiaaDoor
