/-
  What the functions that the law reaches compute,told by plain data;it holds of programs that pass the check of right form and are light.
-/
import Derived.Test.YtjhloakacicdiaaDoorR11
import Derived.Test.YtjhloakacicdiaaDoorR15
import Derived.Test.YtjhloakacicdiaaDoorR17
import Derived.Test.YtjhloakacicdiaaDoorR9
import Derived.Test.YtjhloakacicdiaaDoorS2
set_option linter.unusedVariables false
set_option linter.unusedSimpArgs false
namespace Go.Proofs.YtjhloakacicdiaaDoor
open Go.AH
attribute [local irreducible] W RS
theorem map_el (m:MapC) {t:Nat} (h:t < mapM):mapE m≠t:=fun e=>by have:=mapE_ge m;rw [e] at this;exact absurd this (Nat.not_le.2 h)
theorem CseAt.keep {h H:Hp} {N bb mb:Nat} {s:CseS} (o:CseAt h N bb mb s) (hu:∀ i b,h.m i=some b→b.elem≠46→b.elem≠58→H.m i=some b):CseAt H N bb mb s:=by
 obtain ⟨r,l,h1,h2,h3⟩:=o.row
 exact ⟨o.rw,o.gb,o.gm,hu _ _ o.hm (map_el _ (by decide)) (map_el _ (by decide)),o.ok,r,l,h1,hu _ _ h2 (by simp) (by simp),fun hl=>⟨(h3 hl).1,hu _ _ (h3 hl).2 (by simp) (by simp)⟩⟩
theorem CseAt.offm {h:Hp} {N bb mb:Nat} {s:CseS} (o:CseAt h N bb mb s) {i:Nat} {b:Blk} (hb:h.m i=some b) (he:b.elem < mapM):i≠mb:=fun e=>by
 rw [e,o.hm] at hb
 injection hb with hb
 subst hb
 exact absurd (mapE_ge s.m) (Nat.not_le.2 he)
theorem CseAt.offb {h:Hp} {N bb mb:Nat} {s:CseS} (o:CseAt h N bb mb s) {i:Nat} {b:Blk} (hb:h.m i=some b) (he:b.elem≠98):i≠bb:=fun e=>by
 obtain ⟨_,_,_,h2,_⟩:=o.row
 rw [e,h2] at hb
 injection hb with hb
 subst hb
 exact he rfl
theorem KeepC.el {h H:Hp} {N bb mb:Nat} {s:CseS} (k:KeepC bb mb h H) (o:CseAt h N bb mb s) {i:Nat} {b:Blk} (hb:h.m i=some b) (h1:b.elem=46∨b.elem=58):H.m i=some b:=by
 rcases h1 with h1|h1
 ·exact k.m i b hb (o.offb hb (by rw [h1];decide)) (o.offm hb (by rw [h1];decide))
 ·exact k.m i b hb (o.offb hb (by rw [h1];decide)) (o.offm hb (by rw [h1];decide))
theorem CseAt.putM {h:Hp} {N bb mb:Nat} {s:CseS} (o:CseAt h N bb mb s) {k:Int} {a:ArgS} (hk:fitI k) (ha:a.ok):CseAt (h.set mb ⟨⟨[]⟩,mapE (s.m.put (rowM k a))⟩) N bb mb (putC s k a):=by
 obtain ⟨r,l,h1,h2,h3⟩:=o.row
 have off:∀ {i:Nat} {b:Blk},h.m i=some b→b.elem < mapM→(h.set mb ⟨⟨[]⟩,mapE (s.m.put (rowM k a))⟩).m i=some b:=fun {i b} hb he=>by
  show (if i=mb then _ else h.m i)=_
  rw [if_neg (o.offm hb he)];exact hb
 exact ⟨o.rw,o.gb,o.gm,set_self _ _ _,o.ok.put hk ha,r,l,h1,off h2 (by show 98 < mapM;decide),fun hl=>⟨(h3 hl).1,off (h3 hl).2 (by show 130 < mapM;decide)⟩⟩
structure KeepI (N bb mb:Nat) (x:InsV) (h h':Hp):Prop where
 le:h.n≤h'.n
 m:∀ i b,h.m i=some b→i≠bb→i≠mb→(b.elem≠130∨i < N)→(x.1.args≠[]→i≠x.2)→h'.m i=some b
theorem insVC_of {x:InsS} {y:InsV} (h:x.args.length=y.1.args.length):insVC (x,y.2)=insC x (insA y) (insK y):=by
 have e:(x.args=[])=(y.1.args=[]):=by rw [← List.length_eq_zero_iff,← List.length_eq_zero_iff,h]
 rw [insVC_eq]
 unfold insA insK
 simp only [e]
structure InsB (B:Hp) (xb yb rb:Nat) (x y:InsS) (A:Option Addr) (c:Nat):Prop where
 x:B.m xb=some ⟨⟨insC x A c⟩,58⟩
 y:B.m yb=some ⟨⟨insC y A c⟩,58⟩
 r:B.m rb=some ⟨⟨cellsV (.agg ⟨insC ⟨0,0,zeroA,zeroA,0,false,false,0,0,[]⟩ none 0⟩)⟩,58⟩
theorem InsB.keep {B H:Hp} {xb yb rb:Nat} {x y:InsS} {A:Option Addr} {c:Nat} (s:InsB B xb yb rb x y A c) (hu:∀ i b,B.m i=some b→b.elem=58→H.m i=some b):InsB H xb yb rb x y A c:=⟨hu _ _ s.x rfl,hu _ _ s.y rfl,hu _ _ s.r rfl⟩
theorem findW_fit {x:InsS}:∀ {w:List KnS},(∀ k∈w,fitI k.2)→fitI (findW w x)
 | [],_=>by unfold findW fitI;omega
 | k::w,h=>by
  unfold findW
  split
  ·exact h k (by simp)
  ·exact findW_fit fun j hj=>h j (by simp [hj])
structure InsZ (h H:Hp) (N bb mb xb yb rb:Nat) (x:InsV) (V:List ArgS) (u y:InsS) (A:Option Addr) (c:Nat):Prop where
 b:InsB H xb yb rb u y A c
 le:h.n≤H.n
 k:∀ i b,h.m i=some b→i≠bb→i≠mb→(b.elem≠130∨i < N)→(x.1.args≠[]→i≠x.2)→H.m i=some b
 v:x.1.args≠[]→H.m x.2=some ⟨⟨argsC V⟩,46⟩
 d:∀ i b,h.m i=some b→i < h.n
 gx:h.n≤xb
 gr:h.n≤rb
 rx:rb≠xb
 xy:xb≠yb
section
variable {h H H':Hp} {N bb mb xb yb rb:Nat} {x:InsV} {V:List ArgS} {u y:InsS} {A:Option Addr} {c:Nat} {s:CseS}
theorem InsZ.up (z:InsZ h H N bb mb xb yb rb x V u y A c) (hu:∀ i b,H.m i=some b→H'.m i=some b) (hl:H.n≤H'.n):InsZ h H' N bb mb xb yb rb x V u y A c :=
 ⟨z.b.keep fun i b hb _=>hu i b hb,Nat.le_trans z.le hl,fun i b h1 h2 h3 h4 h5=>hu _ _ (z.k i b h1 h2 h3 h4 h5),fun hn=>hu _ _ (z.v hn),z.d,z.gx,z.gr,z.rx,z.xy⟩
theorem InsZ.call (z:InsZ h H N bb mb xb yb rb x V u y A c) (o:CseAt H N bb mb s) (k:KeepC bb mb H H'):InsZ h H' N bb mb xb yb rb x V u y A c :=
 ⟨z.b.keep fun _ _ hb he=>k.el o hb (.inr he),Nat.le_trans z.le k.le,fun i b h1 h2 h3 h4 h5=>k.m i b (z.k i b h1 h2 h3 h4 h5) h2 h3,fun hn=>k.el o (z.v hn) (.inl rfl),z.d,z.gx,z.gr,z.rx,z.xy⟩
theorem InsZ.setM (z:InsZ h H N bb mb xb yb rb x V u y A c) (o:CseAt H N bb mb s) (w:Blk):InsZ h (H.set mb w) N bb mb xb yb rb x V u y A c:=by
 have hu:∀ i b,H.m i=some b→i≠mb→(H.set mb w).m i=some b:=fun i b hb hn=>by
  show (if i=mb then _ else H.m i)=_
  rw [if_neg hn];exact hb
 exact ⟨z.b.keep fun i b hb he=>hu i b hb (o.offm hb (by rw [he];decide)),z.le,fun i b h1 h2 h3 h4 h5=>hu _ _ (z.k i b h1 h2 h3 h4 h5) h3,fun hn=>hu _ _ (z.v hn) (o.offm (z.v hn) (by show 46 < mapM;decide)),z.d,z.gx,z.gr,z.rx,z.xy⟩
theorem InsZ.setX (z:InsZ h H N bb mb xb yb rb x V u y A c) (u':InsS):InsZ h (H.set xb ⟨⟨insC u' A c⟩,58⟩) N bb mb xb yb rb x V u' y A c:=by
 have hu:∀ i b,H.m i=some b→i≠xb→(H.set xb ⟨⟨insC u' A c⟩,58⟩).m i=some b:=fun i b hb hn=>by
  show (if i=xb then _ else H.m i)=_
  rw [if_neg hn];exact hb
 exact ⟨⟨set_self _ _ _,hu _ _ z.b.y fun e=>z.xy e.symm,hu _ _ z.b.r z.rx⟩,z.le,fun i b h1 h2 h3 h4 h5=>hu _ _ (z.k i b h1 h2 h3 h4 h5) fun e=>by have:=z.d i b h1;have:=z.gx;omega,fun hn=>hu _ _ (z.v hn) (ne_of_elem (z.v hn) z.b.x (by simp)),z.d,z.gx,z.gr,z.rx,z.xy⟩
theorem InsZ.off (z:InsZ h H N bb mb xb yb rb x V u y A c) (o:CseAt H N bb mb s) (hu:∀ i b,H.m i=some b→i≠bb→(b.elem≠130∨i < N)→H'.m i=some b) (hl:H.n≤H'.n):InsZ h H' N bb mb xb yb rb x V u y A c :=
 ⟨z.b.keep fun i b hb he=>hu i b hb (o.offb hb (by rw [he];decide)) (.inl (by rw [he];decide)),Nat.le_trans z.le hl,fun i b h1 h2 h3 h4 h5=>hu _ _ (z.k i b h1 h2 h3 h4 h5) h2 h4,fun hn=>hu _ _ (z.v hn) (o.offb (z.v hn) (by simp)) (.inl (by simp)),z.d,z.gx,z.gr,z.rx,z.xy⟩
theorem InsZ.fin2 (z:InsZ h H N bb mb xb yb rb x V u y A c) {w:Blk} (hB:∀ i b,(H.set rb w).m i=some b→H'.m i=some b) (hl:H.n≤H'.n):KeepI N bb mb x h H'∧(x.1.args≠[]→H'.m x.2=some ⟨⟨argsC V⟩,46⟩):=by
 have hu:∀ i b,H.m i=some b→i≠rb→H'.m i=some b:=fun i b hb hn=>hB i b (by
  show (if i=rb then _ else H.m i)=_
  rw [if_neg hn];exact hb)
 exact ⟨⟨Nat.le_trans z.le hl,fun i b h1 h2 h3 h4 h5=>hu _ _ (z.k i b h1 h2 h3 h4 h5) fun e=>by have:=z.d i b h1;have:=z.gr;omega⟩,fun hn=>hu _ _ (z.v hn) (ne_of_elem (z.v hn) z.b.r (by simp))⟩
theorem InsZ.fin (z:InsZ h H N bb mb xb yb rb x V u y A c) (o:CseAt H N bb mb s) {w:Blk} (hB:∀ i b,(H.set rb w).m i=some b→H'.m i=some b) (hl:H.n≤H'.n):CseAt H' N bb mb s∧KeepI N bb mb x h H'∧(x.1.args≠[]→H'.m x.2=some ⟨⟨argsC V⟩,46⟩):=by
 have hu:∀ i b,H.m i=some b→i≠rb→H'.m i=some b:=fun i b hb hn=>hB i b (by
  show (if i=rb then _ else H.m i)=_
  rw [if_neg hn];exact hb)
 exact ⟨o.keep fun i b hb _ he=>hu i b hb (ne_of_elem hb z.b.r he),z.fin2 hB hl⟩
end
set_option maxHeartbeats 2000000 in
set_option maxRecDepth 100000 in
theorem cins_ex (x:InsV) (s:CseS) (hxok:x.1.ok) (hna:x.1.args.length≤1000000) (hw:s.w.length≤999999999) (hwf:∀ k∈s.w,fitI k.2) (h:Hp) (N bb mb:Nat) (o:CseAt h N bb mb s) (hV0:x.1.args≠[]→rwM≤x.2∧h.m x.2=some ⟨⟨argsC x.1.args⟩,46⟩) :
 EX Tryd.prog 54 [.pointer (some ⟨bb,0,none⟩),.agg ⟨insVC x⟩] h (fun v h'=>v=.agg ⟨insVC (insX s x.1,x.2)⟩∧CseAt h' N bb mb (insM s x.1)∧KeepI N bb mb x h h'∧(x.1.args≠[]→h'.m x.2=some ⟨⟨argsC (x.1.args.map fun a=>argM s.m a (-1))⟩,46⟩)):=by
 obtain ⟨Ax,hAx⟩:∃ A,A=insA x:=⟨_,rfl⟩
 obtain ⟨cx,hcx⟩:∃ c,c=insK x:=⟨_,rfl⟩
 rw [insVC_eq,← hAx,← hcx]
 refine EX.intro (fn:=Tryd.f54) (c:=(Tryd.f54.body.getD .skip)) Tryd.func54 (by kernel_rfl) Tryd.ntmps54 (by kernel_rfl) fun π s0=>?_
 conv=>arg 2;whnf
 have hd:=s0.dom
 have hdc:=hd
 have oc:=o
 have hmap:(x.1.args.map fun a=>argM s.m a (-1)).length=x.1.args.length:=List.length_map _
 ((with_reducible apply W.seq);repeat (first|refine Yf ?_|((with_reducible apply RS.box);iterate 3 exact rfl)|refine Y0 ?_|refine Y1 ?_|refine Y13 ?_))
 ((with_reducible apply W.seq);repeat (first|refine Y8 ?_|refine Y4 ?_|refine Yf ?_|refine Y0 ?_|refine Y1 ?_|refine Y13 ?_))
 ((with_reducible apply W.seq);repeat (first|refine Y2r ?_|refine Y16 ?_|refine Y8 ?_|refine Y4 ?_|refine Y0 ?_|refine Y1 ?_|refine Y13 ?_))
 ((with_reducible apply W.seq);repeat (first|refine Y2r ?_|refine Y16 ?_|refine Y7 ?_|refine Y8 ?_|refine Y4 ?_|refine Y0 ?_|refine Y1 ?_|refine Y13 ?_))
 refine W.absorbX fun B0 π0 a0=>?_
 have hI0:InsB B0 (π 0) (π 2) (π 1) { x.1 with a:=argM s.m x.1.a x.1.dst,b:=argM s.m x.1.b x.1.dst } { x.1 with a:=argM s.m x.1.a (-1),b:=argM s.m x.1.b (-1) } Ax cx:=⟨a0.loc 0 (by decide:(0:Nat) < 3),a0.loc 2 (by decide:(2:Nat) < 3),a0.loc 1 (by decide:(1:Nat) < 3)⟩
 have hxg:h.n≤π 0:=a0.lo 0 (by decide:(0:Nat) < 3)
 have hyg:h.n≤π 2:=a0.lo 2 (by decide:(2:Nat) < 3)
 have hrg:h.n≤π 1:=a0.lo 1 (by decide:(1:Nat) < 3)
 have hrx:π 1≠π 0:=fun e=>absurd (a0.inj 1 0 (by decide:(1:Nat) < 3) (by decide:(0:Nat) < 3) e) (by decide)
 have hry:π 1≠π 2:=fun e=>absurd (a0.inj 1 2 (by decide:(1:Nat) < 3) (by decide:(2:Nat) < 3) e) (by decide)
 have hxy:π 0≠π 2:=fun e=>absurd (a0.inj 0 2 (by decide:(0:Nat) < 3) (by decide:(2:Nat) < 3) e) (by decide)
 generalize π 0=xb at *
 generalize π 1=rb at *
 generalize π 2=yb at *
 have hxw:rwM≤xb:=Nat.le_trans s0.rw hxg
 have hRw:rwM≤rb:=Nat.le_trans s0.rw hrg
 have hX:=hI0.x
 have hXn:=a0.dom _ _ hX
 repeat (first|refine Yr ?_|refine Y23 ?_|refine Y0 ?_|refine Y1e ?_|refine Y1 ?_)
 refine W.loopN (X:=Nat) (fun j=>[(0,.pointer (some ⟨bb,0,none⟩)),(3,.pointer (some ⟨xb,0,none⟩)),(4,.pointer (some ⟨rb,0,none⟩)),(5,.pointer (some ⟨yb,0,none⟩)),(35,.slice Ax x.1.args.length cx),(36,.int .i64 (x.1.args.length:Int)),(37,.int .i64 (j:Int))])
  (fun j B=>j≤x.1.args.length∧h.n≤B.n∧(∀ i b,h.m i=some b→(x.1.args≠[]→i≠x.2)→B.m i=some b)∧InsB B xb yb rb { x.1 with a:=argM s.m x.1.a x.1.dst,b:=argM s.m x.1.b x.1.dst } { x.1 with a:=argM s.m x.1.a (-1),b:=argM s.m x.1.b (-1) } Ax cx∧(x.1.args≠[]→B.m x.2=some ⟨⟨argsC (mixL (x.1.args.map fun a=>argM s.m a (-1)) x.1.args j)⟩,46⟩)) (fun j=>x.1.args.length - j)
  (fun B' y=>⟨0,?_,⟨Nat.zero_le _,Nat.le_trans a0.le y.le,?_,?_,fun hn=>?_⟩⟩) ?_
 ·(repeat' (first|exact trivial|exact rfl|apply And.intro));done
 ·exact fun i b hb _=>y.up _ _ (a0.up _ _ hb)
 ·exact hI0.keep fun i b hb _=>y.up _ _ hb
 ·rw [mixL_zero];exact y.up _ _ (a0.up _ _ (hV0 hn).2)
 rintro j B7 π7 sB7 ⟨hj,hle7,hk7,hI7,hV7⟩
 clear hX hXn
 have hX:=hI7.x
 have hXn:=sB7.dom _ _ hX
 have o7:CseAt B7 N bb mb s:=o.keep fun i b hb h1 _=>hk7 i b hb fun hn=>ne_of_elem hb (hV0 hn).2 h1
 by_cases hjl:j < x.1.args.length
 ·have han:x.1.args≠[]:=by intro e;rw [e] at hjl;exact absurd hjl (Nat.not_lt_zero _)
  obtain ⟨aj,haj⟩:∃ a,x.1.args[j]?=some a:=⟨_,List.getElem?_eq_getElem hjl⟩
  have hV:=hV7 han
  have hVn:=sB7.dom _ _ hV
  have hVw:=(hV0 han).1
  have hdc:=sB7.dom
  have oc:=o7
  have hgj:(mixL (x.1.args.map fun a=>argM s.m a (-1)) x.1.args j)[j]?=some aj:=by rw [mixL_at hmap];exact haj
  have hgl:(mixL (x.1.args.map fun a=>argM s.m a (-1)) x.1.args j).length=x.1.args.length:=mixL_length hmap j
  have hVl:0+j * 2+2≤(argsC (mixL (x.1.args.map fun a=>argM s.m a (-1)) x.1.args j)).length:=by rw [argsC_length,hgl];omega
  have hAx2:Ax=some ⟨x.2,0,none⟩:=by rw [hAx];unfold insA;rw [if_neg han]
  subst hAx2
  repeat (first|refine Y2r ?_|((with_reducible apply RS.indexAddrS);(iterate 5 exact rfl);exact hjl)|((with_reducible apply RS.loadNB);(iterate 3 exact rfl);exact hV;exact hVn;exact hVl;exact argsC_at hgj)|((with_reducible apply RS.storeB);(iterate 3 exact rfl);exact hV;exact hVn;exact hVw;exact hVl;iterate 3 exact rfl)|refine Yr ?_|refine Y9 ?_|refine Y3 ?_|refine Yd ?_|refine Y8 ?_|refine Y4 ?_|refine Yf ?_|refine Y0 ?_|refine Ye ?_|refine Y1 ?_|refine Y5 ?_)
  refine roundN_n rfl fun B' y=>⟨j+1,?_,⟨hjl,Nat.le_trans hle7 y.le,fun i b hb hn=>y.up _ _ ?_,hI7.keep fun i b hb he=>y.up _ _ ?_,fun _=>y.up _ _ ?_⟩,by omega⟩
  ·(repeat' (first|exact trivial|exact rfl|apply And.intro));done
  ·show (if i=x.2 then _ else B7.m i)=_
   rw [if_neg (hn han)];exact hk7 i b hb hn
  ·show (if i=x.2 then _ else B7.m i)=_
   rw [if_neg (ne_of_elem hb hV (by rw [he];simp))];exact hb
  ·show (if x.2=x.2 then _ else _)=_
   rw [if_pos rfl]
   have e:argsC (mixL (x.1.args.map fun a=>argM s.m a (-1)) x.1.args (j+1))=setL (argsC (mixL (x.1.args.map fun a=>argM s.m a (-1)) x.1.args j)) (0+j * 2) (argC (argM s.m aj (-1))):=by
    rw [argsC_set (by rw [hgl];exact hjl),mixL_set hmap (by rw [List.getElem?_map,haj];rfl)]
   rw [e];rfl
 ·have hjj:j=x.1.args.length:=by omega
  subst hjj
  rw [mixL_all hmap] at hV7
  obtain ⟨x2,hx2⟩:∃ u,headI s.m x.1=u:=⟨_,rfl⟩
  obtain ⟨y2,hy2⟩:∃ u,fullI s.m x.1=u:=⟨_,rfl⟩
  have ex:insC { x.1 with a:=argM s.m x.1.a x.1.dst,b:=argM s.m x.1.b x.1.dst } Ax cx=insC x2 Ax cx:=by rw [← hx2];unfold insC headI;simp
  have ey:insC { x.1 with a:=argM s.m x.1.a (-1),b:=argM s.m x.1.b (-1) } Ax cx=insC y2 Ax cx:=by rw [← hy2];unfold insC fullI;simp
  have z7:InsZ h B7 N bb mb xb yb rb x (x.1.args.map fun a=>argM s.m a (-1)) x2 y2 Ax cx:=⟨⟨by rw [← ex];exact hI7.x,by rw [← ey];exact hI7.y,hI7.r⟩,hle7,fun i b h1 _ _ _ h5=>hk7 i b h1 h5,hV7,hd,hxg,hrg,hrx,hxy⟩
  have hop:x2.op=x.1.op:=by rw [← hx2];rfl
  have hdst:x2.dst=x.1.dst:=by rw [← hx2];rfl
  have hlen:x2.args.length=x.1.args.length:=by rw [← hx2];simp [headI]
  have hvc:insVC (x2,x.2)=insC x2 Ax cx:=by rw [hAx,hcx];exact insVC_of hlen
  have hx2a:x2.a.ok:=by rw [← hx2];exact argM_ok o.ok hxok.a _
  have hx2d:fitI x2.dst:=by rw [hdst];exact hxok.dst
  have hMr:=Nat.le_trans o.rw o.gm
  have hwl:s.w.length≤1000000000:=by omega
  have hwm:(memW s.w).length≤1000000000:=Nat.le_trans (List.length_filter_le _ _) hwl
  clear hX hXn
  have hX:=z7.b.x
  have hXn:=sB7.dom _ _ hX
  have hR:=z7.b.r
  have hRn:=sB7.dom _ _ hR
  by_cases c1:x2.op=2∨x2.op=1
  ·have e1:insX s x.1=x2:=by unfold insX;rw [if_pos (by omega),hx2]
   have e2:insM s x.1=if x2.a.reg≠x2.dst then putC (chgC s x2.dst) x2.dst x2.a else chgC s x2.dst:=by unfold insM;rw [if_pos (by omega),hx2,hdst]
   by_cases c2:x2.a.reg≠x2.dst
   ·rw [if_pos c2] at e2
    rcases c1 with c1|c1
    all_goals
     repeat (first|refine Yr ?_|refine Y10 ?_|((with_reducible apply RS.callEx);(iterate 3 exact rfl);intro B1 hB1;refine ⟨_,changed_ex B1 N bb mb s x2.dst (o7.up hB1.up) hwl,?_⟩;rintro v H1 π1 ⟨rfl,o8,k8⟩ sH1 hle1;have z8:=(z7.up hB1.up hB1.le).call (o7.up hB1.up) k8;have hX:=z8.b.x;have hXn:=sH1.dom _ _ hX;have hR:=z8.b.r;have hRn:=sH1.dom _ _ hR;have hM:=o8.hm;have hMn:=sH1.dom _ _ hM;have hs0:=o8.ok.s0;obtain ⟨r8,l8,hl8,hB,hR8⟩:=o8.row;have hBn:=sH1.dom _ _ hB;have hbm:bnd H1.n (.map (some mb)):=(by simpa using hMn);have hXm:=(z8.setM o8 ⟨⟨[]⟩,mapE ((chgC s x2.dst).m.put (rowM x2.dst x2.a))⟩).b.x;have hRm:=(z8.setM o8 ⟨⟨[]⟩,mapE ((chgC s x2.dst).m.put (rowM x2.dst x2.a))⟩).b.r)|((with_reducible apply RS.loadNB);(iterate 3 exact rfl);exact hXm;exact hXn;exact Nat.le_of_ble_eq_true rfl;exact rfl)|((with_reducible apply RS.storeB);(iterate 3 exact rfl);exact hRm;exact hRn;exact hRw;exact Nat.le_of_ble_eq_true rfl;iterate 3 exact rfl)|refine Y31 ?_|((with_reducible apply (RS.mapUpdate (row:=rowM x2.dst x2.a)));(iterate 4 exact rfl);exact hM;exact hMn;exact hMr;exact hs0)|refine Y19 ?_|refine Yk ?_|refine Yb ?_|refine Y3 ?_|refine Y2 ?_|refine Yn ?_|refine Y0 ?_|refine Y2w ?_|refine Y1 ?_|refine Y5 ?_|refine Y6 ?_|refine Yl ?_)
     refine endsK_ret _ (.cons (.baseN (vs:=insC x2 Ax cx) rfl (set_self _ _ _) (Nat.le_of_ble_eq_true rfl) rfl) .nil) fun B' a=>⟨by rw [e1,hvc];rfl,?_⟩
     rw [e2]
     exact (z8.setM o8 _).fin (o8.putM hx2d hx2a) a.up a.le
   ·rw [if_neg c2] at e2
    rcases c1 with c1|c1
    all_goals
     repeat (first|refine Yr ?_|refine Y10 ?_|refine Y1h ?_|((with_reducible apply RS.callEx);(iterate 3 exact rfl);intro B1 hB1;refine ⟨_,changed_ex B1 N bb mb s x2.dst (o7.up hB1.up) hwl,?_⟩;rintro v H1 π1 ⟨rfl,o8,k8⟩ sH1 hle1;have z8:=(z7.up hB1.up hB1.le).call (o7.up hB1.up) k8;have hX:=z8.b.x;have hXn:=sH1.dom _ _ hX;have hR:=z8.b.r;have hRn:=sH1.dom _ _ hR;have hM:=o8.hm;have hMn:=sH1.dom _ _ hM;have hs0:=o8.ok.s0;obtain ⟨r8,l8,hl8,hB,hR8⟩:=o8.row;have hBn:=sH1.dom _ _ hB;have hbm:bnd H1.n (.map (some mb)):=(by simpa using hMn);have hXm:=(z8.setM o8 ⟨⟨[]⟩,mapE ((chgC s x2.dst).m.put (rowM x2.dst x2.a))⟩).b.x;have hRm:=(z8.setM o8 ⟨⟨[]⟩,mapE ((chgC s x2.dst).m.put (rowM x2.dst x2.a))⟩).b.r)|refine Y9 ?_|refine Yk ?_|refine Yb ?_|refine Y3 ?_|refine Y2 ?_|refine Yn ?_|refine Y0 ?_|refine Y3o ?_|refine Y1 ?_|refine Y5 ?_|refine Y6 ?_|refine Yl ?_)
     refine endsK_ret _ (.cons (.baseN (vs:=insC x2 Ax cx) rfl (set_self _ _ _) (Nat.le_of_ble_eq_true rfl) rfl) .nil) fun B' a=>⟨by rw [e1,hvc];rfl,?_⟩
     rw [e2]
     exact z8.fin o8 a.up a.le
  by_cases c3:x2.op=27∨x2.op=28∨x2.op=29
  ·have e1:insX s x.1=x2:=by unfold insX;rw [if_neg (by omega),if_pos (by omega),hx2]
   have e2:insM s x.1=if 0≤x2.dst then chgC ⟨s.m,memW s.w⟩ x2.dst else ⟨s.m,memW s.w⟩:=by unfold insM;rw [if_neg (by omega),if_pos (by omega),hdst]
   by_cases c2:0≤x2.dst
   ·rw [if_pos c2] at e2
    rcases c3 with c3|c3|c3
    all_goals
     repeat (first|refine Yr ?_|refine Y10 ?_|refine Y1h ?_|((with_reducible apply RS.callEx);(iterate 3 exact rfl);first|intro B1 hB1;refine ⟨_,memory_ex B1 N bb mb s hwl (o7.up hB1.up),?_⟩;rintro v H1 π1 ⟨rfl,o8,k8⟩ sH1 hle1;have z8:=(z7.up hB1.up hB1.le).call (o7.up hB1.up) k8;have hX:=z8.b.x;have hXn:=sH1.dom _ _ hX;have hR:=z8.b.r;have hRn:=sH1.dom _ _ hR|intro B2 hB2;refine ⟨_,changed_ex B2 N bb mb ⟨s.m,memW s.w⟩ x2.dst (o8.up hB2.up) hwm,?_⟩;rintro v H2 π2 ⟨rfl,o9,k9⟩ sH2 hle2;have z9:=(z8.up hB2.up hB2.le).call (o8.up hB2.up) k9;have hX:=z9.b.x;have hXn:=sH2.dom _ _ hX;have hR:=z9.b.r;have hRn:=sH2.dom _ _ hR)|refine Y9 ?_|refine Yk ?_|refine Yb ?_|refine Y3 ?_|refine Y2 ?_|refine Yn ?_|refine Y0 ?_|refine Y2w ?_|refine Y1 ?_|refine Y5 ?_|refine Y6 ?_|refine Yl ?_)
     refine endsK_ret _ (.cons (.baseN (vs:=insC x2 Ax cx) rfl (set_self _ _ _) (Nat.le_of_ble_eq_true rfl) rfl) .nil) fun B' a=>⟨by rw [e1,hvc];rfl,?_⟩
     rw [e2]
     exact z9.fin o9 a.up a.le
   ·rw [if_neg c2] at e2
    rcases c3 with c3|c3|c3
    all_goals
     repeat (first|refine Yr ?_|refine Y10 ?_|refine Y1h ?_|((with_reducible apply RS.callEx);(iterate 3 exact rfl);intro B1 hB1;refine ⟨_,memory_ex B1 N bb mb s hwl (o7.up hB1.up),?_⟩;rintro v H1 π1 ⟨rfl,o8,k8⟩ sH1 hle1;have z8:=(z7.up hB1.up hB1.le).call (o7.up hB1.up) k8;have hX:=z8.b.x;have hXn:=sH1.dom _ _ hX;have hR:=z8.b.r;have hRn:=sH1.dom _ _ hR)|refine Y9 ?_|refine Yk ?_|refine Yb ?_|refine Y3 ?_|refine Y2 ?_|refine Yn ?_|refine Y0 ?_|refine Y3o ?_|refine Y1 ?_|refine Y5 ?_|refine Y6 ?_|refine Yl ?_)
     refine endsK_ret _ (.cons (.baseN (vs:=insC x2 Ax cx) rfl (set_self _ _ _) (Nat.le_of_ble_eq_true rfl) rfl) .nil) fun B' a=>⟨by rw [e1,hvc];rfl,?_⟩
     rw [e2]
     exact z8.fin o8 a.up a.le
  by_cases c4:x2.op=30
  ·have e1:insX s x.1=x2:=by unfold insX;rw [if_neg (by omega),if_neg (by omega),if_pos (by omega),hx2]
   have e2:insM s x.1=s:=by unfold insM;rw [if_neg (by omega),if_neg (by omega),if_pos (by omega)]
   repeat (first|refine Yr ?_|refine Y10 ?_|refine Y1h ?_|refine Y9 ?_|refine Yb ?_|refine Y3 ?_|refine Y2 ?_|refine Y0 ?_|refine Y2w ?_|refine Y1 ?_|refine Y5 ?_|refine Y6 ?_|refine Yl ?_)
   refine endsK_ret _ (.cons (.baseN (vs:=insC x2 Ax cx) rfl (set_self _ _ _) (Nat.le_of_ble_eq_true rfl) rfl) .nil) fun B' a=>⟨by rw [e1,hvc];rfl,?_⟩
   rw [e2]
   exact z7.fin o7 a.up a.le
  obtain ⟨x3,hx3⟩:∃ u,turnI x2=u:=⟨_,rfl⟩
  obtain ⟨y3,hy3⟩:∃ u,turnI y2=u:=⟨_,rfl⟩
  have hd3:x3.dst=x.1.dst:=by rw [← hx3,turnI_dst,hdst]
  have hl3:x3.args.length=x.1.args.length:=by rw [← hx3,turnI_a,hlen]
  have hvc3:insVC (x3,x.2)=insC x3 Ax cx:=by rw [hAx,hcx];exact insVC_of hl3
  have hx3d:fitI x3.dst:=by rw [hd3];exact hxok.dst
  have hfw:foundW s x.1=if findW s.w y3 < 0 then findW s.w x3 else findW s.w y3:=by unfold foundW;rw [hx2,hy2,hx3,hy3]
  have hAn:∀ a,Ax=some a→a.block < h.n:=fun a ha=>by
   rw [hAx] at ha
   unfold insA at ha
   split at ha
   ·cases ha
   ·injection ha with ha
    subst ha
    exact hd _ _ (hV0 (by assumption)).2
  have htx:∀ B':Hp,h.n≤B'.n→TF Tryd.prog 75 ⟨[.agg ⟨insC x2 Ax cx⟩]⟩ B' (.agg ⟨insC x3 Ax cx⟩) B':=fun B' hb=>by
   rw [← hx3];exact turned_tf x2 Ax cx B' fun a ha=>Nat.lt_of_lt_of_le (hAn a ha) hb
  have hty:∀ B':Hp,h.n≤B'.n→TF Tryd.prog 75 ⟨[.agg ⟨insC y2 Ax cx⟩]⟩ B' (.agg ⟨insC y3 Ax cx⟩) B':=fun B' hb=>by
   rw [← hy3];exact turned_tf y2 Ax cx B' fun a ha=>Nat.lt_of_lt_of_le (hAn a ha) hb
  repeat (first|refine Yr ?_|refine Y10 ?_|((with_reducible apply RS.callA);(iterate 3 exact rfl);exact fun B' hB'=>htx B' (Nat.le_trans hle7 hB'.le))|((with_reducible apply RS.storeB);(iterate 3 exact rfl);exact hX;exact hXn;exact hxw;exact Nat.le_of_ble_eq_true rfl;iterate 3 exact rfl)|refine Y9 ?_|refine Yb ?_|refine Y2 ?_|refine Y0 ?_|(with_reducible first|apply W.seq|apply W.block|apply W.exit|apply W.skip|apply thenK_n|apply thenK_e|apply blockK_n|apply roundN_e)|refine Y1 ?_|refine Y6 ?_|refine Yl ?_)
  refine RS.absorbX fun B8 π8 a8=>?_
  have hB7X:=sB7.dom _ _ z7.b.x
  have z8:=(z7.setX x3).up a8.up a8.le
  have o8:CseAt B8 N bb mb s:=(o7.keep (H:=B7.set xb ⟨⟨insC x3 Ax cx⟩,58⟩) fun i b hb _ hi=>by
   show (if i=xb then _ else B7.m i)=_
   rw [if_neg (ne_of_elem hb z7.b.x hi)];exact hb).up a8.up
  have hle8:h.n≤B8.n:=z8.le
  clear hX hXn hR hRn
  have hX:=z8.b.x
  have hXn:=a8.dom _ _ hX
  have hR:=z8.b.r
  have hRn:=a8.dom _ _ hR
  have hY:=z8.b.y
  have hYn:=a8.dom _ _ hY
  by_cases c5:0≤findW s.w y3∨0≤findW s.w x3
  ·obtain ⟨z,hz1,hz2,hz3⟩:∃ z,foundW s x.1=z∧0≤z∧((0≤findW s.w y3∧z=findW s.w y3)∨(findW s.w y3 < 0∧z=findW s.w x3)):=by
    by_cases h1:findW s.w y3 < 0
    ·exact ⟨_,by rw [hfw,if_pos h1],by omega,.inr ⟨h1,rfl⟩⟩
    ·exact ⟨_,by rw [hfw,if_neg h1],by omega,.inl ⟨by omega,rfl⟩⟩
   have hzf:fitI z:=by
    rcases hz3 with ⟨_,e⟩|⟨_,e⟩
    all_goals rw [e];exact findW_fit hwf
   have e1:insX s x.1=plainI 2 x3.dst ⟨z,0⟩:=by unfold insX;rw [if_neg (by omega),if_neg (by omega),if_neg (by omega),hz1,if_pos hz2,hd3]
   have e2:insM s x.1=if z≠x3.dst then putC (chgC s x3.dst) x3.dst ⟨z,0⟩ else s:=by unfold insM;rw [if_neg (by omega),if_neg (by omega),if_neg (by omega),hz1,if_pos hz2,hd3]
   have ez:(⟨z,0⟩:ArgS).ok:=⟨hzf,by show fitI 0;unfold fitI;omega⟩
   by_cases c6:z≠x3.dst
   ·rw [if_pos c6] at e2
    rcases hz3 with ⟨h1,h2⟩|⟨h1,h2⟩
    all_goals
     subst h2
     repeat (first|refine Yr ?_|refine Y10 ?_|refine Y31 ?_|refine Y3d ?_|refine Y1g ?_|((with_reducible apply RS.callEx);(iterate 3 exact rfl);intro B1 hB1;refine ⟨_,changed_ex B1 N bb mb s x3.dst (o8.up hB1.up) hwl,?_⟩;rintro v H1 π1 ⟨rfl,o9,k9⟩ sH1 hle1;have z9:=(z8.up hB1.up hB1.le).call (o8.up hB1.up) k9;have hX:=z9.b.x;have hXn:=sH1.dom _ _ hX;have hR:=z9.b.r;have hRn:=sH1.dom _ _ hR;have hM:=o9.hm;have hMn:=sH1.dom _ _ hM;have hs0:=o9.ok.s0;obtain ⟨r9,l9,hl9,hB,hr9⟩:=o9.row;have hBn:=sH1.dom _ _ hB;have hbm:bnd H1.n (.map (some mb)):=(by simpa using hMn);have hXm:=fun w=>(z9.setM o9 w).b.x;have hRm:=fun w=>(z9.setM o9 w).b.r)|((with_reducible apply RS.load1B);(iterate 3 exact rfl);exact hXm _;exact hXn;exact rfl)|((with_reducible apply RS.storeB);(iterate 3 exact rfl);exact hRm _;exact hRn;exact hRw;exact Nat.le_of_ble_eq_true rfl;iterate 3 exact rfl)|((with_reducible apply (RS.mapUpdate (row:=rowM x3.dst ⟨_,0⟩)));(iterate 4 exact rfl);exact hM;exact hMn;exact hMr;exact hs0)|refine Y3n ?_|refine Y19 ?_|refine Y3 ?_|refine Y2 ?_|refine Y11 ?_|refine Y0 ?_|refine Y2v ?_|refine Y1 ?_|refine Y5 ?_|refine Y6 ?_)
     refine endsK_ret _ (.cons (.baseN (vs:=insC (plainI 2 x3.dst ⟨_,0⟩) none 0) rfl (set_self _ _ _) (Nat.le_of_ble_eq_true rfl) rfl) .nil) fun B' a=>⟨by rw [e1];rfl,?_⟩
     rw [e2]
     exact (z9.setM o9 _).fin (o9.putM hx3d ez) a.up a.le
   ·rw [if_neg c6] at e2
    rcases hz3 with ⟨h1,h2⟩|⟨h1,h2⟩
    all_goals
     subst h2
     repeat (first|refine Yr ?_|refine Y10 ?_|refine Y1h ?_|refine Y3d ?_|refine Y1g ?_|refine Y3n ?_|refine Y9 ?_|refine Y3 ?_|refine Y2 ?_|refine Y11 ?_|refine Y0 ?_|refine Y2v ?_|refine Y1 ?_|refine Y5 ?_|refine Y6 ?_)
     refine endsK_ret _ (.cons (.baseN (vs:=insC (plainI 2 x3.dst ⟨_,0⟩) none 0) rfl (set_self _ _ _) (Nat.le_of_ble_eq_true rfl) rfl) .nil) fun B' a=>⟨by rw [e1];rfl,?_⟩
     rw [e2]
     exact z8.fin o8 a.up a.le
  ·have hz1:¬ 0≤foundW s x.1:=by rw [hfw];split<;>omega
   have e1:insX s x.1=x3:=by unfold insX;rw [if_neg (by omega),if_neg (by omega),if_neg (by omega),if_neg hz1,hx2,hx3]
   have e2:insM s x.1=if x3.a.reg≠x3.dst∧x3.b.reg≠x3.dst then ⟨(chgC s x3.dst).m,(chgC s x3.dst).w++[(x3,x3.dst)]⟩ else chgC s x3.dst:=by unfold insM;rw [if_neg (by omega),if_neg (by omega),if_neg (by omega),if_neg hz1,hx2,hx3,hd3]
   by_cases c6:x3.a.reg≠x3.dst∧x3.b.reg≠x3.dst
   ·rw [if_pos c6] at e2
    obtain ⟨c7,c8⟩:=c6
    repeat (first|refine Yr ?_|((with_reducible apply RS.loadNB);(iterate 3 exact rfl);first|exact hX;exact hXn;exact Nat.le_of_ble_eq_true rfl;exact rfl|exact hY;exact hYn;exact Nat.le_of_ble_eq_true rfl;exact rfl)|refine Y1g ?_|((with_reducible apply RS.callEx);(iterate 3 exact rfl);intro B1 hB1;refine ⟨_,changed_ex B1 N bb mb s x3.dst (o8.up hB1.up) hwl,?_⟩;rintro v H1 π1 ⟨rfl,o9,k9⟩ sH1 hle1;have z9:=(z8.up hB1.up hB1.le).call (o8.up hB1.up) k9;have hX:=z9.b.x;have hXn:=sH1.dom _ _ hX;have hR:=z9.b.r;have hRn:=sH1.dom _ _ hR;have hM:=o9.hm;have hMn:=sH1.dom _ _ hM;have hs0:=o9.ok.s0;obtain ⟨r9,l9,hl9,hB,hr9⟩:=o9.row;have hBn:=sH1.dom _ _ hB;have hbm:bnd H1.n (.map (some mb)):=(by simpa using hMn);have hXm:=fun w=>(z9.setM o9 w).b.x;have hRm:=fun w=>(z9.setM o9 w).b.r)|refine Y19 ?_|refine Yk ?_|refine Y3 ?_|refine Y2 ?_|refine Y0 ?_|refine Y1u ?_|refine Y1 ?_|refine Y5 ?_|refine Y6 ?_)
    have hne:=o9.ne
    have hgb:=o9.gb
    have hBw:rwM≤bb:=Nat.le_trans o9.rw o9.gb
    have hll:l9.length≤999999999:=by
     have h1:l9.length=(chgC s x3.dst).w.length:=by rw [← hl9];simp
     have h2:(chgC s x3.dst).w.length≤s.w.length:=List.length_filter_le _ _
     omega
    have hXb:=o9.offb hX (by simp)
    have hRb:=o9.offb hR (by simp)
    have fin:∀ (H2 B':Hp) (w:Value) (r':Nat) (w2:Blk),(∀ i b,H1.m i=some b→(b.elem≠130∨i < N)→H2.m i=some b)→H2.n=H1.n→w=rowVl 13 r' (rowK (l9++[⟨(x3,x3.dst),Ax,cx⟩]))→(∀ i b,((H2.set bb ⟨⟨[.map (some mb),w]⟩,98⟩).set rb w2).m i=some b→B'.m i=some b)→H2.n≤B'.n→N≤r'→B'.m r'=some ⟨⟨(rowK (l9++[⟨(x3,x3.dst),Ax,cx⟩])).flatten⟩,130⟩ →
     CseAt B' N bb mb ⟨(chgC s x3.dst).m,(chgC s x3.dst).w++[(x3,x3.dst)]⟩∧KeepI N bb mb x h B'∧(x.1.args≠[]→B'.m x.2=some ⟨⟨argsC (x.1.args.map fun a=>argM s.m a (-1))⟩,46⟩):=by
     intro H2 B' w r' w2 h2 hn hw' hB' hle' hr' hrow
     subst hw'
     have off:∀ {i:Nat} {b:Blk},H1.m i=some b→i≠bb→(b.elem≠130∨i < N)→(H2.set bb ⟨⟨[.map (some mb),rowVl 13 r' (rowK (l9++[⟨(x3,x3.dst),Ax,cx⟩]))]⟩,98⟩).m i=some b:=fun {i b} hb hi he=>by
      show (if i=bb then _ else H2.m i)=_
      rw [if_neg hi];exact h2 i b hb he
     have z10:InsZ h (H2.set bb ⟨⟨[.map (some mb),rowVl 13 r' (rowK (l9++[⟨(x3,x3.dst),Ax,cx⟩]))]⟩,98⟩) N bb mb xb yb rb x (x.1.args.map fun a=>argM s.m a (-1)) x3 y2 Ax cx:=z9.off o9 (fun i b hb hi he=>off hb hi he) (Nat.le_of_eq hn.symm)
     have up:∀ {i:Nat} {b:Blk},(H2.set bb ⟨⟨[.map (some mb),rowVl 13 r' (rowK (l9++[⟨(x3,x3.dst),Ax,cx⟩]))]⟩,98⟩).m i=some b→i≠rb→B'.m i=some b:=fun {i b} hb hi=>hB' i b (by
      show (if i=rb then _ else (H2.set bb _).m i)=_
      rw [if_neg hi];exact hb)
     refine ⟨⟨o9.rw,o9.gb,o9.gm,up (off o9.hm hne (.inl (map_el _ (by decide)))) (fun e=>o9.offm hR (by show 58 < mapM;decide) e.symm),o9.ok,r',l9++[⟨(x3,x3.dst),Ax,cx⟩],by simp [hl9],up (set_self _ _ _) hRb.symm,fun _=>⟨hr',hrow⟩⟩,z10.fin2 hB' (by show H2.n≤_;exact hle')⟩
    by_cases hl0:l9=[]
    ·subst hl0
     have hBe:H1.m bb=some ⟨⟨[.map (some mb),.slice none 0 0]⟩,98⟩:=hB
     have hXs:∀ w,(H1.set bb w).m xb=some ⟨⟨insC x3 Ax cx⟩,58⟩:=fun w=>by
      show (if xb=bb then _ else H1.m xb)=_
      rw [if_neg hXb];exact hX
     have hRs:∀ w,(H1.set bb w).m rb=_:=fun w=>Eq.trans (by
      show (if rb=bb then _ else H1.m rb)=_
      rw [if_neg hRb]) hR
     repeat (first|refine Yr ?_|refine Y10 ?_|((with_reducible apply RS.load1B);(iterate 3 exact rfl);exact hBe;exact hBn;exact rfl)|refine Yi ?_|refine Y35 ?_|((with_reducible apply RS.storeB);(iterate 3 exact rfl);exact hBe;exact hBn;exact hBw;exact Nat.le_of_ble_eq_true rfl;iterate 3 exact rfl)|refine Y4k ?_|refine Y44 ?_|((with_reducible first|apply RS.nilCheck|apply RS.fieldAddr);iterate 3 exact rfl)|refine Y11 ?_|refine Y0 ?_|refine Y1j ?_|refine Y1 ?_)
     refine endsK_ret _ (.cons (.baseN (vs:=insC x3 Ax cx) rfl (set_self _ _ _) (Nat.le_of_ble_eq_true rfl) rfl) .nil) fun B' a=>⟨by rw [e1,hvc3];rfl,?_⟩
     rw [e2]
     exact fin H1 B' _ (π1 1) _ (fun i b hb _=>hb) rfl rfl a.up a.le (Nat.le_trans (Nat.le_trans hgb (Nat.le_of_lt hBn)) (a.lo 1 (by decide:(1:Nat) < 2))) (a.loc 1 (by decide:(1:Nat) < 2))
    ·have hrl:(rowK l9).length=l9.length:=by simp [rowK]
     have hre:rowK l9≠[]:=fun e=>hl0 (rowK_nil.1 e)
     obtain ⟨hrN,hrC⟩:=hr9 hl0
     have hrCn:=sH1.dom _ _ hrC
     have hrCw:rwM≤r9:=Nat.le_trans o9.rw hrN
     have hLl:(rowK l9).flatten.length=(rowK l9).length * 13:=flat_len (rowK_len l9)
     have hBe:H1.m bb=some ⟨⟨[.map (some mb),.slice (some ⟨r9,0,none⟩) (rowK l9).length (capOf 13)]⟩,98⟩:=by rw [hB,rowVl_eq,if_neg hre,if_neg hre]
     have kill:∀ {i:Nat} {b:Blk},H1.m i=some b→(b.elem≠130∨i < N)→(H1.kill r9).m i=some b:=fun {i b} hb he=>by
      show (if i=r9 then none else H1.m i)=_
      rw [if_neg (he.elim (fun he=>ne_of_elem hb hrC he) fun he=>by omega)];exact hb
     have hBk:=kill hBe (.inl (by simp))
     have hXs:∀ w,((H1.kill r9).set bb w).m xb=some ⟨⟨insC x3 Ax cx⟩,58⟩:=fun w=>by
      show (if xb=bb then _ else (H1.kill r9).m xb)=_
      rw [if_neg hXb];exact kill hX (.inl (by simp))
     have hRs:∀ w,((H1.kill r9).set bb w).m rb=_:=fun w=>Eq.trans (by
      show (if rb=bb then _ else (H1.kill r9).m rb)=_
      rw [if_neg hRb]) (kill hR (.inl (by simp)))
     repeat (first|refine Yr ?_|refine Y10 ?_|((with_reducible apply RS.load1B);(iterate 3 exact rfl);exact hBe;exact hBn;exact rfl)|refine Yi ?_|refine Y4k ?_|refine Y44 ?_|((with_reducible apply RS.growL);(iterate 6 exact rfl);exact hrC;exact hrCn;exact hrCw;exact hLl;exact Nat.zero_lt_one;(iterate 3 exact rfl);omega;omega)|((with_reducible apply RS.storeB);(iterate 3 exact rfl);exact hBk;exact hBn;exact hBw;exact Nat.le_of_ble_eq_true rfl;iterate 3 exact rfl)|((with_reducible first|apply RS.nilCheck|apply RS.fieldAddr);iterate 3 exact rfl)|refine Y11 ?_|refine Y0 ?_|refine Y1j ?_|refine Y1 ?_)
     refine endsK_ret _ (.cons (.baseN (vs:=insC x3 Ax cx) rfl (set_self _ _ _) (Nat.le_of_ble_eq_true rfl) rfl) .nil) fun B' a=>⟨by rw [e1,hvc3];rfl,?_⟩
     rw [e2]
     refine fin (H1.kill r9) B' _ (π1 1) _ (fun i b hb he=>kill hb he) rfl ?_ a.up a.le (Nat.le_trans (Nat.le_trans hgb (Nat.le_of_lt hBn)) (a.lo 1 (by decide:(1:Nat) < 2))) ?_
     ·rw [← rowK_append,rowVl_eq,if_neg (by simp),if_neg (by simp)];simp
     ·have:=a.loc 1 (by decide:(1:Nat) < 2)
      rw [this,← rowK_append,List.flatten_append];rfl
   ·rw [if_neg c6] at e2
    by_cases c7:x3.a.reg=x3.dst
    all_goals
     try have c8:x3.b.reg=x3.dst:=Decidable.byContradiction fun e=>c6 ⟨c7,e⟩
     repeat (first|refine Yr ?_|refine Y10 ?_|refine Y1h ?_|refine Y3d ?_|refine Y1g ?_|((with_reducible apply RS.callEx);(iterate 3 exact rfl);intro B1 hB1;refine ⟨_,changed_ex B1 N bb mb s x3.dst (o8.up hB1.up) hwl,?_⟩;rintro v H1 π1 ⟨rfl,o9,k9⟩ sH1 hle1;have z9:=(z8.up hB1.up hB1.le).call (o8.up hB1.up) k9;have hX:=z9.b.x;have hXn:=sH1.dom _ _ hX;have hR:=z9.b.r;have hRn:=sH1.dom _ _ hR;have hM:=o9.hm;have hMn:=sH1.dom _ _ hM;have hs0:=o9.ok.s0;obtain ⟨r9,l9,hl9,hB,hr9⟩:=o9.row;have hBn:=sH1.dom _ _ hB;have hbm:bnd H1.n (.map (some mb)):=(by simpa using hMn);have hXm:=fun w=>(z9.setM o9 w).b.x;have hRm:=fun w=>(z9.setM o9 w).b.r)|refine Y9 ?_|refine Yk ?_|refine Yb ?_|refine Y3 ?_|refine Y2 ?_|refine Yn ?_|refine Y0 ?_|refine Y2u ?_|refine Y1 ?_|refine Y5 ?_|refine Y6 ?_)
     refine endsK_ret _ (.cons (.baseN (vs:=insC x3 Ax cx) rfl (set_self _ _ _) (Nat.le_of_ble_eq_true rfl) rfl) .nil) fun B' a=>⟨by rw [e1,hvc3];rfl,?_⟩
     rw [e2]
     exact z9.fin o9 a.up a.le
theorem insX_args (s:CseS) (x:InsS):(insX s x).args=x.args.map (fun a=>argM s.m a (-1))∨(insX s x).args=[]:=by
 unfold insX
 repeat' split
 all_goals first|exact .inl rfl|exact .inr rfl|(left;rw [turnI_a];rfl)
theorem insM_sub (s:CseS) (x:InsS):(∀ k∈(insM s x).w,k∈s.w∨k.2=x.dst)∧(insM s x).w.length≤s.w.length+1:=by
 have c:∀ (t:CseS) (r:Int),(∀ k∈(chgC t r).w,k∈t.w)∧(chgC t r).w.length≤t.w.length:=fun t r=>⟨fun k hk=>(List.mem_filter.1 hk).1,List.length_filter_le _ _⟩
 have m:(∀ k∈memW s.w,k∈s.w)∧(memW s.w).length≤s.w.length:=⟨fun k hk=>(List.mem_filter.1 hk).1,List.length_filter_le _ _⟩
 unfold insM
 repeat' split
 ·exact ⟨fun k hk=>.inl ((c s _).1 k hk),Nat.le_succ_of_le (c s _).2⟩
 ·exact ⟨fun k hk=>.inl ((c s _).1 k hk),Nat.le_succ_of_le (c s _).2⟩
 ·exact ⟨fun k hk=>.inl (m.1 k ((c ⟨s.m,memW s.w⟩ _).1 k hk)),Nat.le_succ_of_le (Nat.le_trans (c ⟨s.m,memW s.w⟩ _).2 m.2)⟩
 ·exact ⟨fun k hk=>.inl (m.1 k hk),Nat.le_succ_of_le m.2⟩
 ·exact ⟨fun k hk=>.inl hk,Nat.le_succ _⟩
 ·exact ⟨fun k hk=>.inl ((c s _).1 k hk),Nat.le_succ_of_le (c s _).2⟩
 ·exact ⟨fun k hk=>.inl hk,Nat.le_succ _⟩
 ·refine ⟨fun k hk=>?_,?_⟩
  ·rcases List.mem_append.1 hk with hk|hk
   ·exact .inl ((c s _).1 k hk)
   ·rw [List.mem_singleton] at hk;subst hk;exact .inr rfl
  ·have:=(c s x.dst).2
   simp only [List.length_append,List.length_singleton];omega
 ·exact ⟨fun k hk=>.inl ((c s _).1 k hk),Nat.le_succ_of_le (c s _).2⟩
theorem foldM_ok:∀ (l:List InsS) (s:CseS),(∀ x∈l,fitI x.dst)→(∀ k∈s.w,fitI k.2)→(∀ k∈(l.foldl insM s).w,fitI k.2)∧(l.foldl insM s).w.length≤s.w.length+l.length
 | [],s,_,h=>⟨h,Nat.le_refl _⟩
 | x::l,s,hl,h=>by
  obtain ⟨h1,h2⟩:=insM_sub s x
  obtain ⟨g1,g2⟩:=foldM_ok l (insM s x) (fun y hy=>hl y (by simp [hy])) fun k hk=>by
   rcases h1 k hk with e|e
   ·exact h k e
   ·rw [e];exact hl x (by simp)
  exact ⟨g1,by rw [List.foldl_cons,List.length_cons];omega⟩
def cseVs:CseS→List InsV→List InsV
 | _,[]=>[]
 | s,x::xs=>(insX s x.1,x.2)::cseVs (insM s x.1) xs
theorem cseVs_length:∀ (xs:List InsV) (s:CseS),(cseVs s xs).length=xs.length
 | [],_=>rfl
 | x::xs,s=>by rw [cseVs,List.length_cons,List.length_cons,cseVs_length xs]
theorem cseVs_fst:∀ (xs:List InsV) (s:CseS),(cseVs s xs).map (·.1)=insMs s (xs.map (·.1))
 | [],_=>rfl
 | x::xs,s=>by rw [cseVs,List.map_cons,List.map_cons,insMs,cseVs_fst xs]
theorem cseVs_get:∀ {xs:List InsV} {s:CseS} {k:Nat} {x:InsV},xs[k]?=some x→(cseVs s xs)[k]?=some (insX (((xs.take k).map (·.1)).foldl insM s) x.1,x.2)
 | [],_,_,_,h=>by simp at h
 | y::xs,s,0,x,h=>by
  simp only [List.getElem?_cons_zero,Option.some.injEq] at h
  subst h;rfl
 | y::xs,s,k+1,x,h=>by
  simp only [List.getElem?_cons_succ] at h
  rw [cseVs,List.getElem?_cons_succ,cseVs_get h];rfl
def blockCV (b:BV):BV:={ b with ins:=cseVs cse0 b.ins,term:=termM ((b.ins.map (·.1)).foldl insM cse0).m b.term }
theorem blockCV_s (b:BV):(blockCV b).s=blockM b.s:=by
 unfold blockCV BV.s blockM
 rw [cseVs_fst]
theorem sL_cse (bv:List BV):sL (bv.map blockCV)=(sL bv).map blockM:=by
 unfold sL
 rw [List.map_map,List.map_map]
 exact List.map_congr_left fun b _=>blockCV_s b
instance:TySz Tryd.prog 98 2:=by infer_instance
set_option maxHeartbeats 2000000 in
set_option maxRecDepth 100000 in
theorem cfunc_ex (h:Hp) (N bb:Nat) (bv:List BV) (f:FuncS) (A1:Option Addr) (c1:Nat) (A2:Option Addr) (c2 c3:Nat) (hown:OwnA h N bb bv) (hlen:bv.length≤100000) (hins:∀ b∈bv,b.ins.length≤1000000) (hok:∀ b∈bv,∀ x∈b.ins,x.1.ok∧x.1.args.length≤1000000) :
 EX Tryd.prog 30 [.agg ⟨funcC { f with blocks:=sL bv } A1 c1 A2 c2 (some ⟨bb,0,none⟩) c3⟩] h (fun v h'=>v=.agg ⟨funcC { f with blocks:=sL (bv.map blockCV) } A1 c1 A2 c2 (some ⟨bb,0,none⟩) c3⟩∧OwnA h' N bb (bv.map blockCV)∧OffS (fun j=>N≤j) h h'∧∀ j x,h.m j=some x→x.elem≠50→x.elem≠58→x.elem≠46→h'.m j=some x):=by
 refine EX.intro (fn:=Tryd.f30) (c:=(Tryd.f30.body.getD .skip)) Tryd.func30 (by kernel_rfl) Tryd.ntmps30 (by kernel_rfl) fun π s0=>?_
 conv=>arg 2;whnf
 have hd:=s0.dom
 obtain ⟨n,hn⟩:∃ n,bv.length=n:=⟨_,rfl⟩
 obtain ⟨FC,hFC⟩:∃ FC:List Value,FC=[.string f.name,.int .i64 f.params,.slice A1 f.secret c1,.int .i64 f.regs,.slice A2 f.slots.length c2,.slice (some ⟨bb,0,none⟩) n c3]:=⟨_,rfl⟩
 have hfc:funcC { f with blocks:=sL bv } A1 c1 A2 c2 (some ⟨bb,0,none⟩) c3=FC:=by rw [hFC];unfold funcC;rw [sL_length,hn]
 ((with_reducible apply W.seq);repeat (first|refine Yf ?_|((with_reducible apply RS.box);iterate 3 exact rfl)|refine Y0 ?_|refine Y1 ?_|refine Y13 ?_))
 refine W.absorbX fun B0 π0 a0=>?_
 have hF0:B0.m (π 0)=some ⟨⟨funcC { f with blocks:=sL bv } A1 c1 A2 c2 (some ⟨bb,0,none⟩) c3⟩,37⟩:=a0.loc 0 (Nat.lt_of_lt_of_le Nat.zero_lt_one (Nat.le_succ 1))
 have hR0:B0.m (π 1)=some ⟨⟨cellsV (.agg ⟨funcC ⟨⟨#[]⟩,0,0,0,[],[]⟩ none 0 none 0 none 0⟩)⟩,37⟩:=a0.loc 1 (Nat.lt_succ_self 1)
 have hfb:h.n≤π 0:=a0.lo 0 (Nat.lt_of_lt_of_le Nat.zero_lt_one (Nat.le_succ 1))
 have hrb:h.n≤π 1:=a0.lo 1 (Nat.lt_succ_self 1)
 have hfr:π 0≠π 1:=fun e=>absurd (a0.inj 0 1 (Nat.lt_of_lt_of_le Nat.zero_lt_one (Nat.le_succ 1)) (Nat.lt_succ_self 1) e) (by decide)
 generalize π 0=fb at *
 generalize π 1=rb at *
 rw [hfc,hFC] at hF0
 have hF:=hF0
 have hFn:=a0.dom _ _ hF
 have hN:N≤h.n:=Nat.le_trans hown.ge (Nat.le_of_lt (hd _ _ hown.m))
 obtain ⟨Fv,hFv⟩:∃ Fv,bv.map blockCV=Fv:=⟨_,rfl⟩
 have hFl:Fv.length=bv.length:=by rw [← hFv];simp
 repeat (first|refine Y29 ?_|refine Y23 ?_|refine Y0 ?_|refine Y1e ?_|refine Y1 ?_)
 refine W.loopN (X:=Nat) (fun i=>[(1,.pointer (some ⟨fb,0,none⟩)),(2,.pointer (some ⟨rb,0,none⟩)),(9,.slice (some ⟨bb,0,none⟩) n c3),(10,.int .i64 (n:Int)),(11,.int .i64 (i:Int))])
  (fun i B=>i≤n∧OwnA B N bb (mixL Fv bv i)∧FunI B fb rb FC∧KeepH h N B) (fun i=>n - i)
  (fun B' y=>⟨0,?_,⟨Nat.zero_le _,?_,⟨?_,?_⟩,?_⟩⟩) ?_
 ·(repeat' (first|exact trivial|exact rfl|apply And.intro));done
 ·rw [mixL_zero];exact hown.up fun i b hb=>y.up _ _ (a0.up _ _ hb)
 ·rw [hFC];exact y.up _ _ hF0
 ·exact y.up _ _ hR0
 ·exact ⟨(a0.oldH.trans y.oldH).off.mono (fun _ _ e=>False.elim e),fun j x hx _ _ _=>y.up _ _ (a0.up _ _ hx)⟩
 rintro i B π1 sB ⟨hi,hA,hFI,hK⟩
 have hF:=hFI.f
 have hFn:=sB.dom _ _ hF
 rw [hFC] at hF
 by_cases hlt:i < n
 ·obtain ⟨b,hb⟩:∃ b,bv[i]?=some b:=⟨_,List.getElem?_eq_getElem (by omega)⟩
  have hbm:=List.mem_of_getElem? hb
  have hbi:(mixL Fv bv i)[i]?=some b:=by rw [mixL_at hFl];exact hb
  have hBm:=hA.m
  have hBmn:=sB.dom _ _ hBm
  obtain ⟨Ab,cb,hvb,hAb⟩:∃ Ab cb,rowVl 12 b.r b.ins=.slice Ab b.ins.length cb∧Ab=if b.ins=[] then none else some ⟨b.r,0,none⟩:=by
   rw [rowVl_eq];exact ⟨_,_,rfl,rfl⟩
  have hFi:Fv[i]?=some (blockCV b):=by rw [← hFv,List.getElem?_map,hb];rfl
  have hbl:=hins b hbm
  repeat (first|((with_reducible apply RS.makeMap);iterate 2 exact rfl)|refine Y29 ?_|refine Y3e ?_|((with_reducible apply RS.load1B);(iterate 3 exact rfl);exact hBm;exact hBmn;exact bv_cell hbi (o:=0) (by omega) (by decide) (congrArg some hvb))|refine Y1o ?_|refine Y3 ?_|refine Y11 ?_|refine Y0 ?_|refine Y1y ?_|refine Y1 ?_|refine Y5 ?_)
  refine W.absorbX fun B1 π2 a1=>?_
  have hM1:B1.m (π1 0)=some ⟨⟨[]⟩,mapE ⟨0,0,[]⟩⟩:=a1.loc 0 (Nat.lt_of_lt_of_le Nat.zero_lt_one (Nat.le_succ 1))
  have hC1:B1.m (π1 1)=some ⟨⟨[.map (some (π1 0)),.slice none 0 0]⟩,98⟩:=a1.loc 1 (Nat.lt_succ_self 1)
  have hmg:B.n≤π1 0:=a1.lo 0 (Nat.lt_of_lt_of_le Nat.zero_lt_one (Nat.le_succ 1))
  have hcg:B.n≤π1 1:=a1.lo 1 (Nat.lt_succ_self 1)
  generalize π1 0=mb at *
  generalize π1 1=qb at *
  have oc1:CseAt B1 B.n qb mb cse0:=⟨sB.rw,hcg,hmg,hM1,.empty,0,[],rfl,hC1,fun e=>absurd rfl e⟩
  replace hBm:=a1.up _ _ hBm
  replace hBmn:=a1.dom _ _ hBm
  have hNB:N≤B.n:=Nat.le_trans hN hK.off.1
  obtain ⟨N1,hN1⟩:∃ N1,B.n=N1:=⟨_,rfl⟩
  rw [hN1] at oc1
  refine W.loopN (X:=Nat) (fun k=>[(1,.pointer (some ⟨fb,0,none⟩)),(2,.pointer (some ⟨rb,0,none⟩)),(9,.slice (some ⟨bb,0,none⟩) n c3),(10,.int .i64 (n:Int)),(11,.int .i64 (i:Int)),(4,.pointer (some ⟨qb,0,none⟩)),(5,.pointer (some ⟨bb,0+i * 9,none⟩)),(24,.slice Ab b.ins.length cb),(25,.int .i64 (b.ins.length:Int)),(26,.int .i64 (k:Int))])
   (fun k B=>k≤b.ins.length∧OwnA B N bb ((mixL Fv bv i).set i { b with ins:=mixL (cseVs cse0 b.ins) b.ins k })∧CseAt B N1 qb mb (((b.ins.take k).map (·.1)).foldl insM cse0)∧FunI B fb rb FC∧KeepH h N B) (fun k=>b.ins.length - k)
   (fun B' y=>⟨0,?_,⟨Nat.zero_le _,?_,oc1.up y.up,⟨y.up _ _ (a1.up _ _ hFI.f),y.up _ _ (a1.up _ _ hFI.r)⟩,(hK.off.same a1.oldH.off).same y.oldH.off,fun j z h1 h2 h3 h4=>y.up _ _ (a1.up _ _ (hK.oth j z h1 h2 h3 h4))⟩⟩) ?_
  ·(repeat' (first|exact trivial|exact rfl|apply And.intro));done
  ·rw [mixL_zero,set_same hbi];exact hA.up fun i b hb=>y.up _ _ (a1.up _ _ hb)
  rintro k B3 π3 sB3 ⟨hk,hA3,hO3,hFI3,hK3⟩
  have hvl:(cseVs cse0 b.ins).length=b.ins.length:=cseVs_length _ _
  obtain ⟨bk,hbk⟩:∃ bk:BV,bk={ b with ins:=mixL (cseVs cse0 b.ins) b.ins k }:=⟨_,rfl⟩
  rw [← hbk] at hA3
  have hbw:((mixL Fv bv i).set i bk)[i]?=some bk:=by rw [List.getElem?_set,if_pos rfl,if_pos (by rw [mixL_length hFl];omega)]
  have hbkr:bk.r=b.r:=by rw [hbk]
  have hbki:bk.ins=mixL (cseVs cse0 b.ins) b.ins k:=by rw [hbk]
  by_cases hkl:k < b.ins.length
  ·obtain ⟨x,hx⟩:∃ x,b.ins[k]?=some x:=⟨_,List.getElem?_eq_getElem hkl⟩
   have hbn:b.ins≠[]:=by intro e;rw [e] at hkl;exact absurd hkl (Nat.not_lt_zero _)
   have hbkx:bk.ins[k]?=some x:=by rw [hbki,mixL_at hvl];exact hx
   have hbkn:bk.ins≠[]:=by intro e;rw [e] at hbkx;simp at hbkx
   obtain ⟨hrN,hrow3⟩:=hA3.row bk (List.mem_of_getElem? hbw) hbkn
   rw [hbkr] at hrN hrow3
   have harg3:=fun hn=>hA3.arg bk (List.mem_of_getElem? hbw) x (List.mem_of_getElem? hbkx) hn
   have hrow3n:=sB3.dom _ _ hrow3
   obtain ⟨hXv0,hXl⟩:=flat_take (ins_wid bk.ins) (i:=k) (x:=insVC x) (by rw [List.getElem?_map,hbkx];rfl)
   obtain ⟨Ax,cx,hxc⟩:∃ Ax cx,insVC x=insC x.1 Ax cx:=⟨_,_,insVC_eq x⟩
   have hXv:takeV (0+k * 12) 12 (bk.ins.map insVC).flatten=insC x.1 Ax cx:=by rw [Nat.zero_add,hXv0,hxc]
   have hXl:0+k * 12+12≤(bk.ins.map insVC).flatten.length:=by omega
   rw [if_neg hbn] at hAb
   subst hAb
   obtain ⟨sk,hsk⟩:∃ sk,((b.ins.take k).map (·.1)).foldl insM cse0=sk:=⟨_,rfl⟩
   rw [hsk] at hO3
   have hxm:=List.mem_of_getElem? hx
   obtain ⟨hxok,hxna⟩:=hok b hbm x hxm
   obtain ⟨hskf,hskl⟩:=foldM_ok ((b.ins.take k).map (·.1)) cse0 (fun y hy=>by
    obtain ⟨z,hz,rfl⟩:=List.mem_map.1 hy
    exact (hok b hbm z (List.mem_of_mem_take hz)).1.dst) (fun j hj=>by cases hj)
   rw [hsk] at hskf hskl
   have hskl:sk.w.length≤999999999:=by
    have h1:((b.ins.take k).map (·.1)).length≤k:=by rw [List.length_map,List.length_take];omega
    have h2:cse0.w.length=0:=rfl
    omega
   ((with_reducible apply W.seq);repeat (first|refine Y3 ?_|refine Y0 ?_|refine Y1 ?_|refine Y13 ?_))
   ((with_reducible apply W.seq);repeat (first|refine Y30 ?_|refine Y5 ?_))
   ((with_reducible apply W.seq);repeat (first|(with_reducible apply W.block)))
   ((with_reducible apply W.seq);((with_reducible apply W.reg);kernel_rfl);repeat (first|((with_reducible apply RS.indexAddrS);(iterate 5 exact rfl);exact hkl)|((with_reducible apply RS.loadNB);(iterate 3 exact rfl);exact hrow3;exact hrow3n;exact hXl;exact hXv)|refine Yh ?_|refine Y4 ?_|refine Yf ?_|refine Y0 ?_));(with_reducible apply thenK_n)
   refine W.absorbX fun C π4 a3=>?_
   have hX0:C.m (π3 0)=some ⟨⟨insC x.1 Ax cx⟩,58⟩:=a3.loc 0 Nat.zero_lt_one
   generalize π3 0=yb at *
   have hX:=hX0
   have hXn:=a3.dom _ _ hX
   replace hA3:=hA3.up a3.up
   replace hO3:=hO3.up a3.up
   replace hFI3:FunI C fb rb FC:=⟨a3.up _ _ hFI3.f,a3.up _ _ hFI3.r⟩
   replace hK3:KeepH h N C:=⟨hK3.off.same a3.oldH.off,fun j z h1 h2 h3 h4=>a3.up _ _ (hK3.oth j z h1 h2 h3 h4)⟩
   replace hrow3:=a3.up _ _ hrow3
   replace hrow3n:=a3.dom _ _ hrow3
   have harg3:=fun hn=>hA3.arg bk (List.mem_of_getElem? hbw) x (List.mem_of_getElem? hbkx) hn
   have hvbk:rowVl 12 bk.r bk.ins=.slice (some ⟨b.r,0,none⟩) b.ins.length cb:=by
    rw [← hvb,hbkr,rowVl_eq,rowVl_eq,if_neg hbkn,if_neg hbkn,if_neg hbn,if_neg hbn,hbki,mixL_length hvl]
   have hBX:=hA3.m
   have hBXn:=a3.dom _ _ hBX
   have hrw3:rwM≤b.r:=Nat.le_trans hA3.rw hrN
   have hsetr:setL (bk.ins.map insVC).flatten (0+k * 12) (cellsV (.agg ⟨insVC (insX sk x.1,x.2)⟩))=((bk.ins.set k (insX sk x.1,x.2)).map insVC).flatten:=by
    have:=flat_set (ins_wid bk.ins) (i:=k) (o:=0) (x:=insVC x) (vs:=insVC (insX sk x.1,x.2)) (by rw [List.getElem?_map,hbkx];rfl) (Nat.le_refl _)
    rw [Nat.zero_add]
    rw [Nat.add_zero] at this
    rw [List.map_set]
    exact this
   have hki:∀ (B4 H':Hp),(∀ i b,C.m i=some b→B4.m i=some b)→KeepI N1 qb mb x B4 H'→∀ {j:Nat} {z:Blk},C.m j=some z→(z.elem=50∨z.elem=58∨z.elem=46∨z.elem=37)→(x.1.args≠[]→j≠x.2)→H'.m j=some z:=fun B4 H' hu ki j z hz he hn =>
    ki.m j z (hu _ _ hz) (hO3.offb hz (by rcases he with e|e|e|e<;>rw [e]<;>decide)) (hO3.offm hz (by rcases he with e|e|e|e<;>rw [e]<;>decide)) (.inl (by rcases he with e|e|e|e<;>rw [e]<;>decide)) hn
   have hbb4:∀ (B4 H':Hp),(∀ i b,C.m i=some b→B4.m i=some b)→KeepI N1 qb mb x B4 H'→∀ j,(!(j == bb))=false→H'.m j=B4.m j:=fun B4 H' hu ki j hj=>by
    have e:j=bb:=by simpa using hj
    rw [e,hki B4 H' hu ki hA3.m (.inl rfl) fun hn=>ne_of_elem hA3.m (harg3 hn).2 (by simp),hu _ _ hA3.m]
   have hr5:∀ (B4 H':Hp),(∀ i b,C.m i=some b→B4.m i=some b)→KeepI N1 qb mb x B4 H'→(cutH H' C.n).m b.r=some ⟨⟨(bk.ins.map insVC).flatten⟩,58⟩:=fun B4 H' hu ki=>by
    show (if b.r < C.n then H'.m b.r else none)=_
    rw [if_pos hrow3n]
    exact hki B4 H' hu ki hrow3 (.inr (.inl rfl)) fun hn=>ne_of_elem hrow3 (harg3 hn).2 (by simp)
   have hci:=fun (B4:Hp) (hu:∀ i b,C.m i=some b→B4.m i=some b)=>cins_ex x sk hxok hxna hskl hskf B4 N1 qb mb (hO3.up hu) (fun hn=>⟨Nat.le_trans hA3.rw (harg3 hn).1,hu _ _ (harg3 hn).2⟩)
   rw [hxc] at hci
   repeat (first|((with_reducible apply RS.indexAddrS);(iterate 5 exact rfl);exact hkl)|((with_reducible apply RS.load1X);(iterate 3 exact rfl);exact hBX;exact hBXn;exact bv_cell hbw (o:=0) (by omega) (by decide) (congrArg some hvbk))|refine Y10 ?_|((with_reducible apply (RS.callYE (fun id=>!(id == bb))));(iterate 3 exact rfl);intro B4 he4 hB4;refine ⟨_,hci B4 hB4.up,(fun v H' hq j hj hej=>hbb4 B4 H' hB4.up hq.2.2.1 j hej),?_⟩;rintro v H5 k5 l5 ⟨rfl,o5,ki5,hv5⟩ sH5 hle5 hm5 hden5 hwf5 hk5;have hrow5:=hr5 B4 H5 hB4.up ki5)|((with_reducible apply RS.storeB);(iterate 3 exact rfl);exact hrow5;exact hrow3n;exact hrw3;exact hXl;exact rfl;exact insVC_one _;exact hsetr)|((with_reducible apply (RS.nilPX mixed [(3,4),(2,4),(1,4),(0,4),(4,5),(3,5),(2,5),(1,5),(0,5),(5,6),(4,6),(3,6),(2,6),(1,6),(0,6),(4,7),(3,7),(2,7),(1,7),(0,7)]));kernel_rfl;(repeat (refine ⟨fun x y hx hy=>(by obtain rfl:=Option.some.inj hx;obtain rfl:=Option.some.inj hy;exact pairR_free rfl rfl rfl rfl rfl rfl rfl (Nat.zero_le _) rfl),?_⟩));exact trivial;exact sideBut_all (b:=bb) (by repeat' (first|exact trivial|exact .inl rfl|exact .inr rfl|apply And.intro)))|refine Y20 ?_|refine Yd ?_|refine Y0 ?_|refine Y1 ?_|(with_reducible first|apply thenK_n|apply blockK_n))
   have hnext:((b.ins.take (k+1)).map (·.1)).foldl insM cse0=insM sk x.1:=by
    rw [List.take_add_one,hx,List.map_append,List.foldl_append,hsk];rfl
   have hbset:(mixL Fv bv i).set i { b with ins:=mixL (cseVs cse0 b.ins) b.ins (k+1) }=((mixL Fv bv i).set i bk).set i { bk with ins:=bk.ins.set k (insX sk x.1,x.2) }:=by
    rw [List.set_set]
    congr 1
    rw [hbk]
    dsimp only
    rw [mixL_set hvl (by rw [cseVs_get hx,hsk])]
   refine roundN_n rfl fun B' y=>?_
   have keep9:∀ {j:Nat} {z:Blk},H5.m j=some z→j≠b.r→B'.m j=some z:=fun {j z} hz hj=>by
    by_cases hlt:j < C.n
    ·refine y.up _ _ ?_
     show (if j=b.r then _ else if j < C.n then H5.m j else none)=_
     rw [if_neg hj,if_pos hlt];exact hz
    ·exact Absb.part hden5 (B2:=(cutH H5 C.n).set b.r _) rfl (Nat.le_refl _) (fun _ _=>rfl) y j z (by show C.n≤j;omega) hz
   have keepE:∀ {j:Nat} {z:Blk},C.m j=some z→(z.elem=50∨z.elem=58∨z.elem=46∨z.elem=37)→j≠b.r→(x.1.args≠[]→j≠x.2)→B'.m j=some z:=fun hz he hj hn=>keep9 (hki B4 H5 hB4.up ki5 hz he hn) hj
   refine ⟨k+1,?_,⟨hkl,?_,?_,⟨?_,?_⟩,?_⟩,by omega⟩
   ·(repeat' (first|exact trivial|exact rfl|apply And.intro));done
   ·rw [hbset]
    refine hA3.setX hbw hbkx (insX sk x.1) (fun hn e=>?_) (by rw [hbkr];exact y.up _ _ (set_self _ _ _)) (fun hn=>?_) fun p z hz hE h1 h2=>keepE hz (by rcases hE with e|e|e<;>simp [e]) (by rw [← hbkr];exact h1) h2
    ·apply hn
     rcases insX_args sk x.1 with h1|h1
     ·rw [h1,e];rfl
     ·exact h1
    ·rcases insX_args sk x.1 with h1|h1
     ·rw [h1]
      have:=hv5 (fun e=>hn (by rw [h1,e];rfl))
      exact keep9 this (ne_of_elem (hki B4 H5 hB4.up ki5 hrow3 (.inr (.inl rfl)) fun hn=>ne_of_elem hrow3 (harg3 hn).2 (by simp)) this (by simp)).symm
     ·exact absurd h1 hn
   ·rw [hnext]
    exact o5.keep fun j z hz _ he=>keep9 hz (ne_of_elem hz (hki B4 H5 hB4.up ki5 hrow3 (.inr (.inl rfl)) fun hn=>ne_of_elem hrow3 (harg3 hn).2 (by simp)) he)
   ·exact keepE hFI3.f (.inr (.inr (.inr rfl))) (ne_of_elem hFI3.f hrow3 (by simp)) fun hn=>ne_of_elem hFI3.f (harg3 hn).2 (by simp)
   ·exact keepE hFI3.r (.inr (.inr (.inr rfl))) (ne_of_elem hFI3.r hrow3 (by simp)) fun hn=>ne_of_elem hFI3.r (harg3 hn).2 (by simp)
   ·refine ⟨hK3.off.trans (S:=fun j=>N≤j) (T:=fun j=>N≤j) ⟨Nat.le_trans (Nat.le_trans hB4.le hle5) (by rw [← hden5];exact Nat.le_of_eq y.n.symm),fun j hj hn=>?_⟩ fun j _ e=>e,fun j z h1 h2 h3 h4=>?_⟩
    ·cases hc:C.m j with
     | some z =>
      have g1:=ki5.m j z (hB4.up _ _ hc) (by omega) (by omega) (.inr (by omega)) fun hn' e=>by have:=(harg3 hn').1;omega
      exact keep9 g1 (by omega)
     | none =>
      have g1:B'.m j=((cutH H5 C.n).set b.r _).m j:=y.old j hj
      rw [g1]
      show (if j=b.r then _ else if j < C.n then H5.m j else none)=none
      rw [if_neg (by omega),if_pos hj]
      cases h5:H5.m j with
      | none=>rfl
      | some w =>
       obtain ⟨w',hw'⟩:=hm5 j w (Nat.lt_of_lt_of_le hj hB4.le) h5
       have g2:B4.m j=C.m j:=hB4.old j hj
       rw [g2,hc] at hw';cases hw'
    ·have hz:=hK3.oth j z h1 h2 h3 h4
     have hjh:=hd j z h1
     have hBh:=hK.off.1
     exact keep9 (ki5.m j z (hB4.up _ _ hz) (by omega) (by omega) (.inr (by omega)) fun hn'=>ne_of_elem hz (harg3 hn').2 h4) (ne_of_elem hz hrow3 h3)
  ·have hkk:k=b.ins.length:=by omega
   subst hkk
   rw [List.take_length] at hO3
   obtain ⟨so,hso⟩:∃ so,(b.ins.map (·.1)).foldl insM cse0=so:=⟨_,rfl⟩
   rw [hso] at hO3
   rw [mixL_all hvl] at hbki
   obtain ⟨bw,hbw2⟩:∃ bw,(mixL Fv bv i).set i bk=bw:=⟨_,rfl⟩
   rw [hbw2] at hA3 hbw
   have hbt:bk.term=b.term:=by rw [hbk]
   obtain ⟨b2,hb2⟩:∃ b2:BV,b2={ bk with term:={ b.term with a:=argM so.m b.term.a (-1) } }:=⟨_,rfl⟩
   obtain ⟨b3,hb3⟩:∃ b3:BV,b3={ bk with term:=termM so.m b.term }:=⟨_,rfl⟩
   have hbwi2:(bw.set i b2)[i]?=some b2:=by rw [List.getElem?_set,if_pos rfl,if_pos (List.getElem?_eq_some_iff.1 hbw).1]
   have hBm:=hA3.m
   have hBmn:=sB3.dom _ _ hBm
   have hbbw:rwM≤bb:=Nat.le_trans hA3.rw hA3.ge
   obtain ⟨hTa,hTal⟩:=bv_cells hbw (o:=3) (n:=2) (off:=0+i * 9+1+2) (by omega) (by decide)
   obtain ⟨hTb,hTbl⟩:=bv_cells hbw (o:=5) (n:=2) (off:=0+i * 9+1+4) (by omega) (by decide)
   have hTa:takeV (0+i * 9+1+2) 2 (bw.map BV.c).flatten=argC b.term.a:=by rw [hTa,← hbt];rfl
   have hTb:takeV (0+i * 9+1+4) 2 (bw.map BV.c).flatten=argC b.term.b:=by rw [hTb,← hbt];rfl
   have hS1:setL (bw.map BV.c).flatten (0+i * 9+1+2) (cellsV (.agg ⟨argC (argM so.m b.term.a (-1))⟩))=((bw.set i b2).map BV.c).flatten:=bv_write (o:=3) hbw (by omega) (show 3+2≤9 by decide) (by rw [hb2,← hbt];rfl)
   have hS2:setL ((bw.set i b2).map BV.c).flatten (0+i * 9+1+4) (cellsV (.agg ⟨argC (argM so.m b.term.b (-1))⟩))=((bw.set i b3).map BV.c).flatten:=by
    rw [bv_write (o:=5) (b':=b3) (vs:=cellsV (.agg ⟨argC (argM so.m b.term.b (-1))⟩)) hbwi2 (by omega) (show 5+2≤9 by decide) (by rw [hb2,hb3];rfl),List.set_set]
   have hS2l:0+i * 9+1+4+2≤((bw.set i b2).map BV.c).flatten.length:=(bv_cells hbwi2 (o:=5) (n:=2) (off:=0+i * 9+1+4) (by omega) (by decide)).2
   repeat (first|((with_reducible apply RS.callB);(iterate 3 exact rfl);exact fun H hH=>carg_tf _ _ H N1 qb mb so (hO3.up (base_up sB3.dom hH));exact Nm_free (by simp [argC]))|((with_reducible apply RS.loadNB);(iterate 3 exact rfl);first|exact hBm;exact hBmn;exact hTal;exact hTa|exact hBm;exact hBmn;exact hTbl;exact hTb)|((with_reducible apply RS.storeB);(iterate 3 exact rfl);first|exact hBm;exact hBmn;exact hbbw;exact hTal;(iterate 2 exact rfl);exact hS1|exact set_self _ _ _;exact hBmn;exact hbbw;exact hS2l;(iterate 2 exact rfl);exact hS2)|refine Y20 ?_|refine Y2 ?_|refine Yd ?_|refine Y0 ?_|refine Y4s ?_|refine Y1 ?_|refine Y6 ?_|refine Yl ?_)
   refine roundN_n rfl fun B' y=>?_
   have off':OffS (fun p=>p=bb) B3 B':=((OffS.set B3 bb _).trans (S:=fun p=>p=bb) (OffS.set _ bb _) fun p _ e=>e).same y.oldH.off
   have keep':∀ {p:Nat} {z:Blk},B3.m p=some z→z.elem≠50→B'.m p=some z:=fun {p z} hz he=>by
    rw [off'.2 p (sB3.dom p z hz) (ne_of_elem hz hBm he)];exact hz
   refine ⟨i+1,?_,⟨hlt,?_,⟨keep' hFI3.f (by simp),keep' hFI3.r (by simp)⟩,⟨hK3.off.trans off' fun p hp e=>by rw [e];exact hA3.ge,fun p z h1 h2 h3 h4=>keep' (hK3.oth p z h1 h2 h3 h4) h2⟩⟩,by omega⟩
   ·(repeat' (first|exact trivial|exact rfl|apply And.intro));done
   ·have:=hA3.setT hbw (termM so.m b.term) (by rw [← hb3];exact y.up _ _ (set_self _ _ _)) fun p z hz he=>keep' hz he
    have e:bw.set i { bk with term:=termM so.m b.term }=mixL Fv bv (i+1):=by
     rw [← mixL_set hFl hFi,← hbw2,List.set_set]
     congr 1
     rw [← hso]
     unfold blockCV
     rw [← hbki,hbk]
    rw [← e];exact this
 ·have hin:i=n:=by omega
  subst hin
  have hR:=hFI.r
  have hRn:=sB.dom _ _ hR
  have hRw:rwM≤rb:=Nat.le_trans s0.rw hrb
  rw [← hn,mixL_all hFl] at hA
  repeat (first|((with_reducible apply RS.loadNB);(iterate 3 exact rfl);exact hF;exact hFn;exact Nat.le_of_ble_eq_true rfl;exact rfl)|refine Y1h ?_|refine Y2 ?_|refine Y0 ?_|refine Y1x ?_|refine Y1 ?_|refine Y6 ?_|refine Yl ?_)
  refine endsK_ret _ (.cons (.baseN (vs:=[.string f.name,.int .i64 f.params,.slice A1 f.secret c1,.int .i64 f.regs,.slice A2 f.slots.length c2,.slice (some ⟨bb,0,none⟩) i c3]) rfl (by show (if rb=rb then _ else _)=_;rw [if_pos rfl]) (Nat.le_of_ble_eq_true rfl) rfl) .nil) fun B' x=>?_
  have hk:∀ {j:Nat} {y:Blk},B.m j=some y→y.elem≠37→B'.m j=some y:=fun {j y} hy he=>by
   refine x.up j y ?_
   show (if j=rb then _ else B.m j)=_
   rw [if_neg (ne_of_elem hy hR he)];exact hy
  refine ⟨?_,hFv ▸ hA.keep fun j y hy he=>hk hy ?_,(hK.off.same ((OffS.set B rb _).mono fun j hj e=>?_)).same x.oldH.off,fun j y h1 h2 h3 h4=>?_⟩
  ·rw [hFv]
   show Value.agg _=Value.agg _
   unfold funcC
   rw [sL_length,hFl,hn]
  ·rcases he with e|e|e<;>rw [e]<;>decide
  ·rw [e];exact Nat.le_trans hN hrb
  ·refine x.up j y ?_
   show (if j=rb then _ else B.m j)=_
   rw [if_neg (fun e=>by have:=hd j y h1;omega)]
   exact hK.oth j y h1 h2 h3 h4
def fitIB (n:Int):Bool:=decide (-9223372036854775808≤n) && decide (n≤9223372036854775807)
theorem fitIB_ok {n:Int} (h:fitIB n=true):fitI n:=by simpa [fitIB,fitI] using h
def ArgS.okB (a:ArgS):Bool:=fitIB a.reg && fitIB a.num
def InsS.okB (x:InsS):Bool:=fitIB x.op && fitIB x.dst && x.a.okB && x.b.okB && fitIB x.size && fitIB x.ref && fitIB x.off && decide (x.args.length≤281474976710656) && x.args.all ArgS.okB
def TermS.okB (x:TermS):Bool:=fitIB x.kind && fitIB x.op && x.a.okB && x.b.okB && fitIB x.goto && fitIB x.els
def BlockS.okB (x:BlockS):Bool:=decide (x.ins.length≤281474976710656) && x.ins.all InsS.okB && x.term.okB
def FuncS.okB (x:FuncS):Bool:=fitIB x.params && fitIB x.regs && decide (x.secret≤281474976710656) && decide (x.slots.length≤281474976710656) && x.slots.all fitIB && decide (x.blocks.length≤281474976710656) && x.blocks.all BlockS.okB
def PartS.okB (x:PartS):Bool:=fitIB x.kind && fitIB x.n && decide (x.data.length≤281474976710656) && x.data.all (fun a=>decide (0≤a) && decide (a≤255))
def GlobS.okB (x:GlobS):Bool:=fitIB x.place && fitIB x.size && decide (x.parts.length≤281474976710656) && x.parts.all PartS.okB
def ProgS.okB (x:ProgS):Bool:=decide (x.funcs.length≤281474976710656) && x.funcs.all FuncS.okB && decide (x.globals.length≤281474976710656) && x.globals.all GlobS.okB && fitIB x.data && fitIB x.main
theorem ArgS.ok_of {a:ArgS} (h:a.okB=true):a.ok:=by
 simp only [ArgS.okB,Bool.and_eq_true] at h
 exact ⟨fitIB_ok h.1,fitIB_ok h.2⟩
theorem InsS.ok_of {x:InsS} (h:x.okB=true):x.ok:=by
 simp only [InsS.okB,Bool.and_eq_true,decide_eq_true_eq] at h
 obtain ⟨⟨⟨⟨⟨⟨⟨⟨h1,h2⟩,h3⟩,h4⟩,h5⟩,h6⟩,h7⟩,h8⟩,h9⟩:=h
 exact ⟨fitIB_ok h1,fitIB_ok h2,ArgS.ok_of h3,ArgS.ok_of h4,fitIB_ok h5,fitIB_ok h6,fitIB_ok h7,h8,fun a ha=>ArgS.ok_of (List.all_eq_true.1 h9 a ha)⟩
theorem TermS.ok_of {x:TermS} (h:x.okB=true):x.ok:=by
 simp only [TermS.okB,Bool.and_eq_true] at h
 obtain ⟨⟨⟨⟨⟨h1,h2⟩,h3⟩,h4⟩,h5⟩,h6⟩:=h
 exact ⟨fitIB_ok h1,fitIB_ok h2,ArgS.ok_of h3,ArgS.ok_of h4,fitIB_ok h5,fitIB_ok h6⟩
theorem BlockS.ok_of {x:BlockS} (h:x.okB=true):x.ok:=by
 simp only [BlockS.okB,Bool.and_eq_true,decide_eq_true_eq] at h
 exact ⟨h.1.1,fun a ha=>InsS.ok_of (List.all_eq_true.1 h.1.2 a ha),TermS.ok_of h.2⟩
theorem FuncS.ok_of {x:FuncS} (h:x.okB=true):x.ok:=by
 simp only [FuncS.okB,Bool.and_eq_true,decide_eq_true_eq] at h
 obtain ⟨⟨⟨⟨⟨⟨h1,h2⟩,h3⟩,h4⟩,h5⟩,h6⟩,h7⟩:=h
 exact ⟨fitIB_ok h1,fitIB_ok h2,h3,h4,fun a ha=>fitIB_ok (List.all_eq_true.1 h5 a ha),h6,fun a ha=>BlockS.ok_of (List.all_eq_true.1 h7 a ha)⟩
theorem PartS.ok_of {x:PartS} (h:x.okB=true):x.ok:=by
 simp only [PartS.okB,Bool.and_eq_true,decide_eq_true_eq] at h
 obtain ⟨⟨⟨h1,h2⟩,h3⟩,h4⟩:=h
 exact ⟨fitIB_ok h1,fitIB_ok h2,h3,fun a ha=>by have:=List.all_eq_true.1 h4 a ha;simpa using this⟩
theorem GlobS.ok_of {x:GlobS} (h:x.okB=true):x.ok:=by
 simp only [GlobS.okB,Bool.and_eq_true,decide_eq_true_eq] at h
 obtain ⟨⟨⟨h1,h2⟩,h3⟩,h4⟩:=h
 exact ⟨fitIB_ok h1,fitIB_ok h2,h3,fun a ha=>PartS.ok_of (List.all_eq_true.1 h4 a ha)⟩
theorem ProgS.ok_of {x:ProgS} (h:x.okB=true):x.ok:=by
 simp only [ProgS.okB,Bool.and_eq_true,decide_eq_true_eq] at h
 obtain ⟨⟨⟨⟨⟨h1,h2⟩,h3⟩,h4⟩,h5⟩,h6⟩:=h
 exact ⟨h1,fun a ha=>FuncS.ok_of (List.all_eq_true.1 h2 a ha),h3,fun a ha=>GlobS.ok_of (List.all_eq_true.1 h4 a ha),fitIB_ok h5,fitIB_ok h6⟩
def InsOK (f:FuncS):Prop:=∀ b∈f.blocks,∀ x∈b.ins,x.ok∧x.dst < f.regs∧(pureS x.op=true→0≤x.dst)
theorem right_ins {p:ProgS} (hok:p.ok) (hr:rightP p=true):∀ f∈p.funcs,InsOK f:=by
 intro f hf b hb x hx
 unfold rightP at hr
 simp only [Bool.and_eq_true,decide_eq_true_eq] at hr
 have hrf:=List.all_eq_true.1 hr.2 f hf
 unfold funcOK at hrf
 simp only [Bool.and_eq_true,decide_eq_true_eq] at hrf
 have hb':=List.all_eq_true.1 hrf.2 b hb
 unfold blockOK at hb'
 simp only [Bool.and_eq_true] at hb'
 have hx':=List.all_eq_true.1 hb'.1 x hx
 unfold rightS at hx'
 simp only [Bool.and_eq_true,decide_eq_true_eq] at hx'
 refine ⟨((hok.funcs f hf).blocks b hb).ins x hx,by omega,fun hp=>?_⟩
 have hp:=pure_iff.1 hp
 have ht:=hx'.2
 unfold rightT at ht
 repeat' split at ht
 all_goals first
  | omega
  | (simp only [Bool.and_eq_true,decide_eq_true_eq,beq_iff_eq] at ht;first|exact ht.1|exact ht.1.1|exact ht|omega)
def FoldR (f f':FuncS):Prop:=∃ bl',FoldS f.regs f.blocks bl'∧f'={ f with blocks:=bl' }
def fit12T:TermS:=⟨3,0,⟨2,0⟩,⟨0,0⟩,0,0⟩
def fit12I:InsS:=⟨1,1,⟨-1,3⟩,⟨0,0⟩,0,false,false,0,0,[]⟩
def fit12J:InsS:=⟨5,2,⟨1,0⟩,⟨-1,4⟩,0,false,false,0,0,[]⟩
def fit12K:InsS:=⟨1,2,⟨-1,12⟩,⟨0,0⟩,0,false,false,0,0,[]⟩
def fit12B:List BlockS:=[⟨[fit12I,fit12J],fit12T⟩]
def fit12C:List BlockS:=[⟨[fit12I,fit12K],⟨3,0,⟨-1,12⟩,⟨0,0⟩,0,0⟩⟩]
def fit12F (bl:List BlockS):FuncS:=⟨⟨#[109,97,105,110]⟩,0,0,3,[],bl⟩
def fit12P (bl:List BlockS):ProgS:=⟨[fit12F bl],[],0,0⟩
end Go.Proofs.YtjhloakacicdiaaDoor
