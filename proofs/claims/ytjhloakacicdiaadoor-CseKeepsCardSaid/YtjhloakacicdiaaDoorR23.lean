/-
  What the functions that the law reaches compute,told by plain data;it holds of programs that pass the check of right form and are light.
-/
import Derived.Test.YtjhloakacicdiaaDoorR17
import Derived.Test.YtjhloakacicdiaaDoorR21
import Derived.Test.YtjhloakacicdiaaDoorR22
import Derived.Test.YtjhloakacicdiaaDoorR9
import Derived.Test.YtjhloakacicdiaaDoorS2
set_option linter.unusedVariables false
set_option linter.unusedSimpArgs false
namespace Go.Proofs.YtjhloakacicdiaaDoor
open Go.AH
attribute [local irreducible] W RS
theorem map_el (m:MapC) {t:Nat} (h:t < mapM):mapE m≠t:=fun e=>by have:=mapE_ge m;rw [e] at this;exact absurd this (Nat.not_le.2 h)
theorem CseAt.keep {h H:Hp} {N bb mb:Nat} {s:CseS} (o:CseAt h N bb mb s) (hu:∀ i b,h.m i=some b→b.elem≠46→b.elem≠58→H.m i=some b):CseAt H N bb mb s:=by
 obtain ⟨r,l,h1,h2,h3⟩:=o.row
 exact ⟨o.rw,o.gb,o.gm,hu _ _ o.hm (map_el _ (by decide)) (map_el _ (by decide)),o.ok,r,l,h1,hu _ _ h2 (by simp) (by simp),fun hl=>⟨(h3 hl).1,hu _ _ (h3 hl).2 (by simp) (by simp)⟩⟩
theorem CseAt.offm {h:Hp} {N bb mb:Nat} {s:CseS} (o:CseAt h N bb mb s) {i:Nat} {b:Blk} (hb:h.m i=some b) (he:b.elem < mapM):i≠mb:=fun e=>by
 rw [e,o.hm] at hb
 injection hb with hb
 subst hb
 exact absurd (mapE_ge s.m) (Nat.not_le.2 he)
theorem CseAt.offb {h:Hp} {N bb mb:Nat} {s:CseS} (o:CseAt h N bb mb s) {i:Nat} {b:Blk} (hb:h.m i=some b) (he:b.elem≠98):i≠bb:=fun e=>by
 obtain ⟨_,_,_,h2,_⟩:=o.row
 rw [e,h2] at hb
 injection hb with hb
 subst hb
 exact he rfl
theorem KeepC.el {h H:Hp} {N bb mb:Nat} {s:CseS} (k:KeepC bb mb h H) (o:CseAt h N bb mb s) {i:Nat} {b:Blk} (hb:h.m i=some b) (h1:b.elem=46∨b.elem=58):H.m i=some b:=by
 rcases h1 with h1|h1
 ·exact k.m i b hb (o.offb hb (by rw [h1];decide)) (o.offm hb (by rw [h1];decide))
 ·exact k.m i b hb (o.offb hb (by rw [h1];decide)) (o.offm hb (by rw [h1];decide))
theorem CseAt.putM {h:Hp} {N bb mb:Nat} {s:CseS} (o:CseAt h N bb mb s) {k:Int} {a:ArgS} (hk:fitI k) (ha:a.ok):CseAt (h.set mb ⟨⟨[]⟩,mapE (s.m.put (rowM k a))⟩) N bb mb (putC s k a):=by
 obtain ⟨r,l,h1,h2,h3⟩:=o.row
 have off:∀ {i:Nat} {b:Blk},h.m i=some b→b.elem < mapM→(h.set mb ⟨⟨[]⟩,mapE (s.m.put (rowM k a))⟩).m i=some b:=fun {i b} hb he=>by
  show (if i=mb then _ else h.m i)=_
  rw [if_neg (o.offm hb he)];exact hb
 exact ⟨o.rw,o.gb,o.gm,set_self _ _ _,o.ok.put hk ha,r,l,h1,off h2 (by show 98 < mapM;decide),fun hl=>⟨(h3 hl).1,off (h3 hl).2 (by show 130 < mapM;decide)⟩⟩
structure KeepI (N bb mb:Nat) (x:InsV) (h h':Hp):Prop where
 le:h.n≤h'.n
 m:∀ i b,h.m i=some b→i≠bb→i≠mb→(b.elem≠130∨i < N)→(x.1.args≠[]→i≠x.2)→h'.m i=some b
theorem insVC_of {x:InsS} {y:InsV} (h:x.args.length=y.1.args.length):insVC (x,y.2)=insC x (insA y) (insK y):=by
 have e:(x.args=[])=(y.1.args=[]):=by rw [← List.length_eq_zero_iff,← List.length_eq_zero_iff,h]
 rw [insVC_eq]
 unfold insA insK
 simp only [e]
structure InsB (B:Hp) (xb yb rb:Nat) (x y:InsS) (A:Option Addr) (c:Nat):Prop where
 x:B.m xb=some ⟨⟨insC x A c⟩,58⟩
 y:B.m yb=some ⟨⟨insC y A c⟩,58⟩
 r:B.m rb=some ⟨⟨cellsV (.agg ⟨insC ⟨0,0,zeroA,zeroA,0,false,false,0,0,[]⟩ none 0⟩)⟩,58⟩
theorem InsB.keep {B H:Hp} {xb yb rb:Nat} {x y:InsS} {A:Option Addr} {c:Nat} (s:InsB B xb yb rb x y A c) (hu:∀ i b,B.m i=some b→b.elem=58→H.m i=some b):InsB H xb yb rb x y A c:=⟨hu _ _ s.x rfl,hu _ _ s.y rfl,hu _ _ s.r rfl⟩
theorem findW_fit {x:InsS}:∀ {w:List KnS},(∀ k∈w,fitI k.2)→fitI (findW w x)
 | [],_=>by unfold findW fitI;omega
 | k::w,h=>by
  unfold findW
  split
  ·exact h k (by simp)
  ·exact findW_fit fun j hj=>h j (by simp [hj])
structure InsZ (h H:Hp) (N bb mb xb yb rb:Nat) (x:InsV) (V:List ArgS) (u y:InsS) (A:Option Addr) (c:Nat):Prop where
 b:InsB H xb yb rb u y A c
 le:h.n≤H.n
 k:∀ i b,h.m i=some b→i≠bb→i≠mb→(b.elem≠130∨i < N)→(x.1.args≠[]→i≠x.2)→H.m i=some b
 v:x.1.args≠[]→H.m x.2=some ⟨⟨argsC V⟩,46⟩
 d:∀ i b,h.m i=some b→i < h.n
 gx:h.n≤xb
 gr:h.n≤rb
 rx:rb≠xb
 xy:xb≠yb
section
variable {h H H':Hp} {N bb mb xb yb rb:Nat} {x:InsV} {V:List ArgS} {u y:InsS} {A:Option Addr} {c:Nat} {s:CseS}
theorem InsZ.up (z:InsZ h H N bb mb xb yb rb x V u y A c) (hu:∀ i b,H.m i=some b→H'.m i=some b) (hl:H.n≤H'.n):InsZ h H' N bb mb xb yb rb x V u y A c :=
 ⟨z.b.keep fun i b hb _=>hu i b hb,Nat.le_trans z.le hl,fun i b h1 h2 h3 h4 h5=>hu _ _ (z.k i b h1 h2 h3 h4 h5),fun hn=>hu _ _ (z.v hn),z.d,z.gx,z.gr,z.rx,z.xy⟩
theorem InsZ.call (z:InsZ h H N bb mb xb yb rb x V u y A c) (o:CseAt H N bb mb s) (k:KeepC bb mb H H'):InsZ h H' N bb mb xb yb rb x V u y A c :=
 ⟨z.b.keep fun _ _ hb he=>k.el o hb (.inr he),Nat.le_trans z.le k.le,fun i b h1 h2 h3 h4 h5=>k.m i b (z.k i b h1 h2 h3 h4 h5) h2 h3,fun hn=>k.el o (z.v hn) (.inl rfl),z.d,z.gx,z.gr,z.rx,z.xy⟩
theorem InsZ.setM (z:InsZ h H N bb mb xb yb rb x V u y A c) (o:CseAt H N bb mb s) (w:Blk):InsZ h (H.set mb w) N bb mb xb yb rb x V u y A c:=by
 have hu:∀ i b,H.m i=some b→i≠mb→(H.set mb w).m i=some b:=fun i b hb hn=>by
  show (if i=mb then _ else H.m i)=_
  rw [if_neg hn];exact hb
 exact ⟨z.b.keep fun i b hb he=>hu i b hb (o.offm hb (by rw [he];decide)),z.le,fun i b h1 h2 h3 h4 h5=>hu _ _ (z.k i b h1 h2 h3 h4 h5) h3,fun hn=>hu _ _ (z.v hn) (o.offm (z.v hn) (by show 46 < mapM;decide)),z.d,z.gx,z.gr,z.rx,z.xy⟩
theorem InsZ.setX (z:InsZ h H N bb mb xb yb rb x V u y A c) (u':InsS):InsZ h (H.set xb ⟨⟨insC u' A c⟩,58⟩) N bb mb xb yb rb x V u' y A c:=by
 have hu:∀ i b,H.m i=some b→i≠xb→(H.set xb ⟨⟨insC u' A c⟩,58⟩).m i=some b:=fun i b hb hn=>by
  show (if i=xb then _ else H.m i)=_
  rw [if_neg hn];exact hb
 exact ⟨⟨set_self _ _ _,hu _ _ z.b.y fun e=>z.xy e.symm,hu _ _ z.b.r z.rx⟩,z.le,fun i b h1 h2 h3 h4 h5=>hu _ _ (z.k i b h1 h2 h3 h4 h5) fun e=>by have:=z.d i b h1;have:=z.gx;omega,fun hn=>hu _ _ (z.v hn) (ne_of_elem (z.v hn) z.b.x (by simp)),z.d,z.gx,z.gr,z.rx,z.xy⟩
theorem InsZ.off (z:InsZ h H N bb mb xb yb rb x V u y A c) (o:CseAt H N bb mb s) (hu:∀ i b,H.m i=some b→i≠bb→(b.elem≠130∨i < N)→H'.m i=some b) (hl:H.n≤H'.n):InsZ h H' N bb mb xb yb rb x V u y A c :=
 ⟨z.b.keep fun i b hb he=>hu i b hb (o.offb hb (by rw [he];decide)) (.inl (by rw [he];decide)),Nat.le_trans z.le hl,fun i b h1 h2 h3 h4 h5=>hu _ _ (z.k i b h1 h2 h3 h4 h5) h2 h4,fun hn=>hu _ _ (z.v hn) (o.offb (z.v hn) (by simp)) (.inl (by simp)),z.d,z.gx,z.gr,z.rx,z.xy⟩
theorem InsZ.fin2 (z:InsZ h H N bb mb xb yb rb x V u y A c) {w:Blk} (hB:∀ i b,(H.set rb w).m i=some b→H'.m i=some b) (hl:H.n≤H'.n):KeepI N bb mb x h H'∧(x.1.args≠[]→H'.m x.2=some ⟨⟨argsC V⟩,46⟩):=by
 have hu:∀ i b,H.m i=some b→i≠rb→H'.m i=some b:=fun i b hb hn=>hB i b (by
  show (if i=rb then _ else H.m i)=_
  rw [if_neg hn];exact hb)
 exact ⟨⟨Nat.le_trans z.le hl,fun i b h1 h2 h3 h4 h5=>hu _ _ (z.k i b h1 h2 h3 h4 h5) fun e=>by have:=z.d i b h1;have:=z.gr;omega⟩,fun hn=>hu _ _ (z.v hn) (ne_of_elem (z.v hn) z.b.r (by simp))⟩
theorem InsZ.fin (z:InsZ h H N bb mb xb yb rb x V u y A c) (o:CseAt H N bb mb s) {w:Blk} (hB:∀ i b,(H.set rb w).m i=some b→H'.m i=some b) (hl:H.n≤H'.n):CseAt H' N bb mb s∧KeepI N bb mb x h H'∧(x.1.args≠[]→H'.m x.2=some ⟨⟨argsC V⟩,46⟩):=by
 have hu:∀ i b,H.m i=some b→i≠rb→H'.m i=some b:=fun i b hb hn=>hB i b (by
  show (if i=rb then _ else H.m i)=_
  rw [if_neg hn];exact hb)
 exact ⟨o.keep fun i b hb _ he=>hu i b hb (ne_of_elem hb z.b.r he),z.fin2 hB hl⟩
end
set_option maxHeartbeats 2000000 in
set_option maxRecDepth 100000 in
theorem cins_ex (x:InsV) (s:CseS) (hxok:x.1.ok) (hna:x.1.args.length≤1000000) (hw:s.w.length≤999999999) (hwf:∀ k∈s.w,fitI k.2) (h:Hp) (N bb mb:Nat) (o:CseAt h N bb mb s) (hV0:x.1.args≠[]→rwM≤x.2∧h.m x.2=some ⟨⟨argsC x.1.args⟩,46⟩) :
 EX Tryd.prog 54 [.pointer (some ⟨bb,0,none⟩),.agg ⟨insVC x⟩] h (fun v h'=>v=.agg ⟨insVC (insX s x.1,x.2)⟩∧CseAt h' N bb mb (insM s x.1)∧KeepI N bb mb x h h'∧(x.1.args≠[]→h'.m x.2=some ⟨⟨argsC (x.1.args.map fun a=>argM s.m a (-1))⟩,46⟩)):=by
 obtain ⟨Ax,hAx⟩:∃ A,A=insA x:=⟨_,rfl⟩
 obtain ⟨cx,hcx⟩:∃ c,c=insK x:=⟨_,rfl⟩
 rw [insVC_eq,← hAx,← hcx]
 refine EX.intro (fn:=Tryd.f54) (c:=(Tryd.f54.body.getD .skip)) Tryd.func54 (by kernel_rfl) Tryd.ntmps54 (by kernel_rfl) fun π s0=>?_
 conv=>arg 2;whnf
 have hd:=s0.dom
 have hdc:=hd
 have oc:=o
 have hmap:(x.1.args.map fun a=>argM s.m a (-1)).length=x.1.args.length:=List.length_map _
 ((with_reducible apply W.seq);repeat (first|refine Yd ?_|((with_reducible apply RS.box);iterate 3 exact rfl)|refine Y0 ?_|refine Y1 ?_|refine Y12 ?_))
 ((with_reducible apply W.seq);repeat (first|refine Ya ?_|refine Y4 ?_|refine Yd ?_|refine Y0 ?_|refine Y1 ?_|refine Y12 ?_))
 ((with_reducible apply W.seq);repeat (first|refine Y34 ?_|refine Y1a ?_|refine Ya ?_|refine Y4 ?_|refine Y0 ?_|refine Y1 ?_|refine Y12 ?_))
 ((with_reducible apply W.seq);repeat (first|refine Y34 ?_|refine Y1a ?_|refine Y7 ?_|refine Ya ?_|refine Y4 ?_|refine Y0 ?_|refine Y1 ?_|refine Y12 ?_))
 refine W.absorbX fun B0 π0 a0=>?_
 have hI0:InsB B0 (π 0) (π 2) (π 1) { x.1 with a:=argM s.m x.1.a x.1.dst,b:=argM s.m x.1.b x.1.dst } { x.1 with a:=argM s.m x.1.a (-1),b:=argM s.m x.1.b (-1) } Ax cx:=⟨a0.loc 0 (by decide:(0:Nat) < 3),a0.loc 2 (by decide:(2:Nat) < 3),a0.loc 1 (by decide:(1:Nat) < 3)⟩
 have hxg:h.n≤π 0:=a0.lo 0 (by decide:(0:Nat) < 3)
 have hyg:h.n≤π 2:=a0.lo 2 (by decide:(2:Nat) < 3)
 have hrg:h.n≤π 1:=a0.lo 1 (by decide:(1:Nat) < 3)
 have hrx:π 1≠π 0:=fun e=>absurd (a0.inj 1 0 (by decide:(1:Nat) < 3) (by decide:(0:Nat) < 3) e) (by decide)
 have hry:π 1≠π 2:=fun e=>absurd (a0.inj 1 2 (by decide:(1:Nat) < 3) (by decide:(2:Nat) < 3) e) (by decide)
 have hxy:π 0≠π 2:=fun e=>absurd (a0.inj 0 2 (by decide:(0:Nat) < 3) (by decide:(2:Nat) < 3) e) (by decide)
 generalize π 0=xb at *
 generalize π 1=rb at *
 generalize π 2=yb at *
 have hxw:rwM≤xb:=Nat.le_trans s0.rw hxg
 have hRw:rwM≤rb:=Nat.le_trans s0.rw hrg
 have hX:=hI0.x
 have hXn:=a0.dom _ _ hX
 repeat (first|refine Yr ?_|refine Y1z ?_|refine Y0 ?_|refine Y19 ?_|refine Y1 ?_)
 refine W.loopN (X:=Nat) (fun j=>[(0,.pointer (some ⟨bb,0,none⟩)),(3,.pointer (some ⟨xb,0,none⟩)),(4,.pointer (some ⟨rb,0,none⟩)),(5,.pointer (some ⟨yb,0,none⟩)),(35,.slice Ax x.1.args.length cx),(36,.int .i64 (x.1.args.length:Int)),(37,.int .i64 (j:Int))])
  (fun j B=>j≤x.1.args.length∧h.n≤B.n∧(∀ i b,h.m i=some b→(x.1.args≠[]→i≠x.2)→B.m i=some b)∧InsB B xb yb rb { x.1 with a:=argM s.m x.1.a x.1.dst,b:=argM s.m x.1.b x.1.dst } { x.1 with a:=argM s.m x.1.a (-1),b:=argM s.m x.1.b (-1) } Ax cx∧(x.1.args≠[]→B.m x.2=some ⟨⟨argsC (mixL (x.1.args.map fun a=>argM s.m a (-1)) x.1.args j)⟩,46⟩)) (fun j=>x.1.args.length - j)
  (fun B' y=>⟨0,?_,⟨Nat.zero_le _,Nat.le_trans a0.le y.le,?_,?_,fun hn=>?_⟩⟩) ?_
 ·(repeat' (first|exact trivial|exact rfl|apply And.intro));done
 ·exact fun i b hb _=>y.up _ _ (a0.up _ _ hb)
 ·exact hI0.keep fun i b hb _=>y.up _ _ hb
 ·rw [mixL_zero];exact y.up _ _ (a0.up _ _ (hV0 hn).2)
 rintro j B7 π7 sB7 ⟨hj,hle7,hk7,hI7,hV7⟩
 clear hX hXn
 have hX:=hI7.x
 have hXn:=sB7.dom _ _ hX
 have o7:CseAt B7 N bb mb s:=o.keep fun i b hb h1 _=>hk7 i b hb fun hn=>ne_of_elem hb (hV0 hn).2 h1
 by_cases hjl:j < x.1.args.length
 ·have han:x.1.args≠[]:=by intro e;rw [e] at hjl;exact absurd hjl (Nat.not_lt_zero _)
  obtain ⟨aj,haj⟩:∃ a,x.1.args[j]?=some a:=⟨_,List.getElem?_eq_getElem hjl⟩
  have hV:=hV7 han
  have hVn:=sB7.dom _ _ hV
  have hVw:=(hV0 han).1
  have hdc:=sB7.dom
  have oc:=o7
  have hgj:(mixL (x.1.args.map fun a=>argM s.m a (-1)) x.1.args j)[j]?=some aj:=by rw [mixL_at hmap];exact haj
  have hgl:(mixL (x.1.args.map fun a=>argM s.m a (-1)) x.1.args j).length=x.1.args.length:=mixL_length hmap j
  have hVl:0+j * 2+2≤(argsC (mixL (x.1.args.map fun a=>argM s.m a (-1)) x.1.args j)).length:=by rw [argsC_length,hgl];omega
  have hAx2:Ax=some ⟨x.2,0,none⟩:=by rw [hAx];unfold insA;rw [if_neg han]
  subst hAx2
  repeat (first|refine Y34 ?_|((with_reducible apply RS.indexAddrS);(iterate 5 exact rfl);exact hjl)|((with_reducible apply RS.loadNB);(iterate 3 exact rfl);exact hV;exact hVn;exact hVl;exact argsC_at hgj)|((with_reducible apply RS.storeB);(iterate 3 exact rfl);exact hV;exact hVn;exact hVw;exact hVl;iterate 3 exact rfl)|refine Yr ?_|refine Yc ?_|refine Y3 ?_|refine Yb ?_|refine Ya ?_|refine Y4 ?_|refine Yd ?_|refine Y0 ?_|refine Yg ?_|refine Y1 ?_|refine Y5 ?_)
  refine roundN_n rfl fun B' y=>⟨j+1,?_,⟨hjl,Nat.le_trans hle7 y.le,fun i b hb hn=>y.up _ _ ?_,hI7.keep fun i b hb he=>y.up _ _ ?_,fun _=>y.up _ _ ?_⟩,by omega⟩
  ·(repeat' (first|exact trivial|exact rfl|apply And.intro));done
  ·show (if i=x.2 then _ else B7.m i)=_
   rw [if_neg (hn han)];exact hk7 i b hb hn
  ·show (if i=x.2 then _ else B7.m i)=_
   rw [if_neg (ne_of_elem hb hV (by rw [he];simp))];exact hb
  ·show (if x.2=x.2 then _ else _)=_
   rw [if_pos rfl]
   have e:argsC (mixL (x.1.args.map fun a=>argM s.m a (-1)) x.1.args (j+1))=setL (argsC (mixL (x.1.args.map fun a=>argM s.m a (-1)) x.1.args j)) (0+j * 2) (argC (argM s.m aj (-1))):=by
    rw [argsC_set (by rw [hgl];exact hjl),mixL_set hmap (by rw [List.getElem?_map,haj];rfl)]
   rw [e];rfl
 ·have hjj:j=x.1.args.length:=by omega
  subst hjj
  rw [mixL_all hmap] at hV7
  obtain ⟨x2,hx2⟩:∃ u,headI s.m x.1=u:=⟨_,rfl⟩
  obtain ⟨y2,hy2⟩:∃ u,fullI s.m x.1=u:=⟨_,rfl⟩
  have ex:insC { x.1 with a:=argM s.m x.1.a x.1.dst,b:=argM s.m x.1.b x.1.dst } Ax cx=insC x2 Ax cx:=by rw [← hx2];unfold insC headI;simp
  have ey:insC { x.1 with a:=argM s.m x.1.a (-1),b:=argM s.m x.1.b (-1) } Ax cx=insC y2 Ax cx:=by rw [← hy2];unfold insC fullI;simp
  have z7:InsZ h B7 N bb mb xb yb rb x (x.1.args.map fun a=>argM s.m a (-1)) x2 y2 Ax cx:=⟨⟨by rw [← ex];exact hI7.x,by rw [← ey];exact hI7.y,hI7.r⟩,hle7,fun i b h1 _ _ _ h5=>hk7 i b h1 h5,hV7,hd,hxg,hrg,hrx,hxy⟩
  have hop:x2.op=x.1.op:=by rw [← hx2];rfl
  have hdst:x2.dst=x.1.dst:=by rw [← hx2];rfl
  have hlen:x2.args.length=x.1.args.length:=by rw [← hx2];simp [headI]
  have hvc:insVC (x2,x.2)=insC x2 Ax cx:=by rw [hAx,hcx];exact insVC_of hlen
  have hx2a:x2.a.ok:=by rw [← hx2];exact argM_ok o.ok hxok.a _
  have hx2d:fitI x2.dst:=by rw [hdst];exact hxok.dst
  have hMr:=Nat.le_trans o.rw o.gm
  have hwl:s.w.length≤1000000000:=by omega
  have hwm:(memW s.w).length≤1000000000:=Nat.le_trans (List.length_filter_le _ _) hwl
  clear hX hXn
  have hX:=z7.b.x
  have hXn:=sB7.dom _ _ hX
  have hR:=z7.b.r
  have hRn:=sB7.dom _ _ hR
  by_cases c1:x2.op=2∨x2.op=1
  ·have e1:insX s x.1=x2:=by unfold insX;rw [if_pos (by omega),hx2]
   have e2:insM s x.1=if x2.a.reg≠x2.dst then putC (chgC s x2.dst) x2.dst x2.a else chgC s x2.dst:=by unfold insM;rw [if_pos (by omega),hx2,hdst]
   by_cases c2:x2.a.reg≠x2.dst
   ·rw [if_pos c2] at e2
    rcases c1 with c1|c1
    all_goals
     repeat (first|refine Yr ?_|refine Y11 ?_|((with_reducible apply RS.callEx);(iterate 3 exact rfl);intro B1 hB1;refine ⟨_,changed_ex B1 N bb mb s x2.dst (o7.up hB1.up) hwl,?_⟩;rintro v H1 π1 ⟨rfl,o8,k8⟩ sH1 hle1;have z8:=(z7.up hB1.up hB1.le).call (o7.up hB1.up) k8;have hX:=z8.b.x;have hXn:=sH1.dom _ _ hX;have hR:=z8.b.r;have hRn:=sH1.dom _ _ hR;have hM:=o8.hm;have hMn:=sH1.dom _ _ hM;have hs0:=o8.ok.s0;obtain ⟨r8,l8,hl8,hB,hR8⟩:=o8.row;have hBn:=sH1.dom _ _ hB;have hbm:bnd H1.n (.map (some mb)):=(by simpa using hMn);have hXm:=(z8.setM o8 ⟨⟨[]⟩,mapE ((chgC s x2.dst).m.put (rowM x2.dst x2.a))⟩).b.x;have hRm:=(z8.setM o8 ⟨⟨[]⟩,mapE ((chgC s x2.dst).m.put (rowM x2.dst x2.a))⟩).b.r)|((with_reducible apply RS.loadNB);(iterate 3 exact rfl);exact hXm;exact hXn;exact Nat.le_of_ble_eq_true rfl;exact rfl)|((with_reducible apply RS.storeB);(iterate 3 exact rfl);exact hRm;exact hRn;exact hRw;exact Nat.le_of_ble_eq_true rfl;iterate 3 exact rfl)|refine Y3d ?_|((with_reducible apply (RS.mapUpdate (row:=rowM x2.dst x2.a)));(iterate 4 exact rfl);exact hM;exact hMn;exact hMr;exact hs0)|refine Y1d ?_|refine Yf ?_|refine Y8 ?_|refine Y3 ?_|refine Y2 ?_|refine Ym ?_|refine Y0 ?_|refine Y37 ?_|refine Y1 ?_|refine Y5 ?_|refine Y6 ?_|refine Yi ?_)
     refine endsK_ret _ (.cons (.baseN (vs:=insC x2 Ax cx) rfl (set_self _ _ _) (Nat.le_of_ble_eq_true rfl) rfl) .nil) fun B' a=>⟨by rw [e1,hvc];rfl,?_⟩
     rw [e2]
     exact (z8.setM o8 _).fin (o8.putM hx2d hx2a) a.up a.le
   ·rw [if_neg c2] at e2
    rcases c1 with c1|c1
    all_goals
     repeat (first|refine Yr ?_|refine Y11 ?_|refine Y1q ?_|((with_reducible apply RS.callEx);(iterate 3 exact rfl);intro B1 hB1;refine ⟨_,changed_ex B1 N bb mb s x2.dst (o7.up hB1.up) hwl,?_⟩;rintro v H1 π1 ⟨rfl,o8,k8⟩ sH1 hle1;have z8:=(z7.up hB1.up hB1.le).call (o7.up hB1.up) k8;have hX:=z8.b.x;have hXn:=sH1.dom _ _ hX;have hR:=z8.b.r;have hRn:=sH1.dom _ _ hR;have hM:=o8.hm;have hMn:=sH1.dom _ _ hM;have hs0:=o8.ok.s0;obtain ⟨r8,l8,hl8,hB,hR8⟩:=o8.row;have hBn:=sH1.dom _ _ hB;have hbm:bnd H1.n (.map (some mb)):=(by simpa using hMn);have hXm:=(z8.setM o8 ⟨⟨[]⟩,mapE ((chgC s x2.dst).m.put (rowM x2.dst x2.a))⟩).b.x;have hRm:=(z8.setM o8 ⟨⟨[]⟩,mapE ((chgC s x2.dst).m.put (rowM x2.dst x2.a))⟩).b.r)|refine Yc ?_|refine Yf ?_|refine Y8 ?_|refine Y3 ?_|refine Y2 ?_|refine Ym ?_|refine Y0 ?_|refine Y42 ?_|refine Y1 ?_|refine Y5 ?_|refine Y6 ?_|refine Yi ?_)
     refine endsK_ret _ (.cons (.baseN (vs:=insC x2 Ax cx) rfl (set_self _ _ _) (Nat.le_of_ble_eq_true rfl) rfl) .nil) fun B' a=>⟨by rw [e1,hvc];rfl,?_⟩
     rw [e2]
     exact z8.fin o8 a.up a.le
  by_cases c3:x2.op=27∨x2.op=28∨x2.op=29
  ·have e1:insX s x.1=x2:=by unfold insX;rw [if_neg (by omega),if_pos (by omega),hx2]
   have e2:insM s x.1=if 0≤x2.dst then chgC ⟨s.m,memW s.w⟩ x2.dst else ⟨s.m,memW s.w⟩:=by unfold insM;rw [if_neg (by omega),if_pos (by omega),hdst]
   by_cases c2:0≤x2.dst
   ·rw [if_pos c2] at e2
    rcases c3 with c3|c3|c3
    all_goals
     repeat (first|refine Yr ?_|refine Y11 ?_|refine Y1q ?_|((with_reducible apply RS.callEx);(iterate 3 exact rfl);first|intro B1 hB1;refine ⟨_,memory_ex B1 N bb mb s hwl (o7.up hB1.up),?_⟩;rintro v H1 π1 ⟨rfl,o8,k8⟩ sH1 hle1;have z8:=(z7.up hB1.up hB1.le).call (o7.up hB1.up) k8;have hX:=z8.b.x;have hXn:=sH1.dom _ _ hX;have hR:=z8.b.r;have hRn:=sH1.dom _ _ hR|intro B2 hB2;refine ⟨_,changed_ex B2 N bb mb ⟨s.m,memW s.w⟩ x2.dst (o8.up hB2.up) hwm,?_⟩;rintro v H2 π2 ⟨rfl,o9,k9⟩ sH2 hle2;have z9:=(z8.up hB2.up hB2.le).call (o8.up hB2.up) k9;have hX:=z9.b.x;have hXn:=sH2.dom _ _ hX;have hR:=z9.b.r;have hRn:=sH2.dom _ _ hR)|refine Yc ?_|refine Yf ?_|refine Y8 ?_|refine Y3 ?_|refine Y2 ?_|refine Ym ?_|refine Y0 ?_|refine Y37 ?_|refine Y1 ?_|refine Y5 ?_|refine Y6 ?_|refine Yi ?_)
     refine endsK_ret _ (.cons (.baseN (vs:=insC x2 Ax cx) rfl (set_self _ _ _) (Nat.le_of_ble_eq_true rfl) rfl) .nil) fun B' a=>⟨by rw [e1,hvc];rfl,?_⟩
     rw [e2]
     exact z9.fin o9 a.up a.le
   ·rw [if_neg c2] at e2
    rcases c3 with c3|c3|c3
    all_goals
     repeat (first|refine Yr ?_|refine Y11 ?_|refine Y1q ?_|((with_reducible apply RS.callEx);(iterate 3 exact rfl);intro B1 hB1;refine ⟨_,memory_ex B1 N bb mb s hwl (o7.up hB1.up),?_⟩;rintro v H1 π1 ⟨rfl,o8,k8⟩ sH1 hle1;have z8:=(z7.up hB1.up hB1.le).call (o7.up hB1.up) k8;have hX:=z8.b.x;have hXn:=sH1.dom _ _ hX;have hR:=z8.b.r;have hRn:=sH1.dom _ _ hR)|refine Yc ?_|refine Yf ?_|refine Y8 ?_|refine Y3 ?_|refine Y2 ?_|refine Ym ?_|refine Y0 ?_|refine Y42 ?_|refine Y1 ?_|refine Y5 ?_|refine Y6 ?_|refine Yi ?_)
     refine endsK_ret _ (.cons (.baseN (vs:=insC x2 Ax cx) rfl (set_self _ _ _) (Nat.le_of_ble_eq_true rfl) rfl) .nil) fun B' a=>⟨by rw [e1,hvc];rfl,?_⟩
     rw [e2]
     exact z8.fin o8 a.up a.le
  by_cases c4:x2.op=30
  ·have e1:insX s x.1=x2:=by unfold insX;rw [if_neg (by omega),if_neg (by omega),if_pos (by omega),hx2]
   have e2:insM s x.1=s:=by unfold insM;rw [if_neg (by omega),if_neg (by omega),if_pos (by omega)]
   repeat (first|refine Yr ?_|refine Y11 ?_|refine Y1q ?_|refine Yc ?_|refine Y8 ?_|refine Y3 ?_|refine Y2 ?_|refine Y0 ?_|refine Y37 ?_|refine Y1 ?_|refine Y5 ?_|refine Y6 ?_|refine Yi ?_)
   refine endsK_ret _ (.cons (.baseN (vs:=insC x2 Ax cx) rfl (set_self _ _ _) (Nat.le_of_ble_eq_true rfl) rfl) .nil) fun B' a=>⟨by rw [e1,hvc];rfl,?_⟩
   rw [e2]
   exact z7.fin o7 a.up a.le
  obtain ⟨x3,hx3⟩:∃ u,turnI x2=u:=⟨_,rfl⟩
  obtain ⟨y3,hy3⟩:∃ u,turnI y2=u:=⟨_,rfl⟩
  have hd3:x3.dst=x.1.dst:=by rw [← hx3,turnI_dst,hdst]
  have hl3:x3.args.length=x.1.args.length:=by rw [← hx3,turnI_a,hlen]
  have hvc3:insVC (x3,x.2)=insC x3 Ax cx:=by rw [hAx,hcx];exact insVC_of hl3
  have hx3d:fitI x3.dst:=by rw [hd3];exact hxok.dst
  have hfw:foundW s x.1=if findW s.w y3 < 0 then findW s.w x3 else findW s.w y3:=by unfold foundW;rw [hx2,hy2,hx3,hy3]
  have hAn:∀ a,Ax=some a→a.block < h.n:=fun a ha=>by
   rw [hAx] at ha
   unfold insA at ha
   split at ha
   ·cases ha
   ·injection ha with ha
    subst ha
    exact hd _ _ (hV0 (by assumption)).2
  have htx:∀ B':Hp,h.n≤B'.n→TF Tryd.prog 75 ⟨[.agg ⟨insC x2 Ax cx⟩]⟩ B' (.agg ⟨insC x3 Ax cx⟩) B':=fun B' hb=>by
   rw [← hx3];exact turned_tf x2 Ax cx B' fun a ha=>Nat.lt_of_lt_of_le (hAn a ha) hb
  have hty:∀ B':Hp,h.n≤B'.n→TF Tryd.prog 75 ⟨[.agg ⟨insC y2 Ax cx⟩]⟩ B' (.agg ⟨insC y3 Ax cx⟩) B':=fun B' hb=>by
   rw [← hy3];exact turned_tf y2 Ax cx B' fun a ha=>Nat.lt_of_lt_of_le (hAn a ha) hb
  repeat (first|refine Yr ?_|refine Y11 ?_|((with_reducible apply RS.callA);(iterate 3 exact rfl);exact fun B' hB'=>htx B' (Nat.le_trans hle7 hB'.le))|((with_reducible apply RS.storeB);(iterate 3 exact rfl);exact hX;exact hXn;exact hxw;exact Nat.le_of_ble_eq_true rfl;iterate 3 exact rfl)|refine Yc ?_|refine Y8 ?_|refine Y2 ?_|refine Y0 ?_|(with_reducible first|apply W.seq|apply W.block|apply W.exit|apply W.skip|apply thenK_n|apply thenK_e|apply blockK_n|apply roundN_e)|refine Y1 ?_|refine Y6 ?_|refine Yi ?_)
  refine RS.absorbX fun B8 π8 a8=>?_
  have hB7X:=sB7.dom _ _ z7.b.x
  have z8:=(z7.setX x3).up a8.up a8.le
  have o8:CseAt B8 N bb mb s:=(o7.keep (H:=B7.set xb ⟨⟨insC x3 Ax cx⟩,58⟩) fun i b hb _ hi=>by
   show (if i=xb then _ else B7.m i)=_
   rw [if_neg (ne_of_elem hb z7.b.x hi)];exact hb).up a8.up
  have hle8:h.n≤B8.n:=z8.le
  clear hX hXn hR hRn
  have hX:=z8.b.x
  have hXn:=a8.dom _ _ hX
  have hR:=z8.b.r
  have hRn:=a8.dom _ _ hR
  have hY:=z8.b.y
  have hYn:=a8.dom _ _ hY
  by_cases c5:0≤findW s.w y3∨0≤findW s.w x3
  ·obtain ⟨z,hz1,hz2,hz3⟩:∃ z,foundW s x.1=z∧0≤z∧((0≤findW s.w y3∧z=findW s.w y3)∨(findW s.w y3 < 0∧z=findW s.w x3)):=by
    by_cases h1:findW s.w y3 < 0
    ·exact ⟨_,by rw [hfw,if_pos h1],by omega,.inr ⟨h1,rfl⟩⟩
    ·exact ⟨_,by rw [hfw,if_neg h1],by omega,.inl ⟨by omega,rfl⟩⟩
   have hzf:fitI z:=by
    rcases hz3 with ⟨_,e⟩|⟨_,e⟩
    all_goals rw [e];exact findW_fit hwf
   have e1:insX s x.1=plainI 2 x3.dst ⟨z,0⟩:=by unfold insX;rw [if_neg (by omega),if_neg (by omega),if_neg (by omega),hz1,if_pos hz2,hd3]
   have e2:insM s x.1=if z≠x3.dst then putC (chgC s x3.dst) x3.dst ⟨z,0⟩ else s:=by unfold insM;rw [if_neg (by omega),if_neg (by omega),if_neg (by omega),hz1,if_pos hz2,hd3]
   have ez:(⟨z,0⟩:ArgS).ok:=⟨hzf,by show fitI 0;unfold fitI;omega⟩
   by_cases c6:z≠x3.dst
   ·rw [if_pos c6] at e2
    rcases hz3 with ⟨h1,h2⟩|⟨h1,h2⟩
    all_goals
     subst h2
     repeat (first|refine Yr ?_|refine Y11 ?_|refine Y3d ?_|refine Y3s ?_|refine Y1n ?_|((with_reducible apply RS.callEx);(iterate 3 exact rfl);intro B1 hB1;refine ⟨_,changed_ex B1 N bb mb s x3.dst (o8.up hB1.up) hwl,?_⟩;rintro v H1 π1 ⟨rfl,o9,k9⟩ sH1 hle1;have z9:=(z8.up hB1.up hB1.le).call (o8.up hB1.up) k9;have hX:=z9.b.x;have hXn:=sH1.dom _ _ hX;have hR:=z9.b.r;have hRn:=sH1.dom _ _ hR;have hM:=o9.hm;have hMn:=sH1.dom _ _ hM;have hs0:=o9.ok.s0;obtain ⟨r9,l9,hl9,hB,hr9⟩:=o9.row;have hBn:=sH1.dom _ _ hB;have hbm:bnd H1.n (.map (some mb)):=(by simpa using hMn);have hXm:=fun w=>(z9.setM o9 w).b.x;have hRm:=fun w=>(z9.setM o9 w).b.r)|((with_reducible apply RS.load1B);(iterate 3 exact rfl);exact hXm _;exact hXn;exact rfl)|((with_reducible apply RS.storeB);(iterate 3 exact rfl);exact hRm _;exact hRn;exact hRw;exact Nat.le_of_ble_eq_true rfl;iterate 3 exact rfl)|((with_reducible apply (RS.mapUpdate (row:=rowM x3.dst ⟨_,0⟩)));(iterate 4 exact rfl);exact hM;exact hMn;exact hMr;exact hs0)|refine Y41 ?_|refine Y1d ?_|refine Y3 ?_|refine Y2 ?_|refine Y17 ?_|refine Y0 ?_|refine Y2h ?_|refine Y1 ?_|refine Y5 ?_|refine Y6 ?_)
     refine endsK_ret _ (.cons (.baseN (vs:=insC (plainI 2 x3.dst ⟨_,0⟩) none 0) rfl (set_self _ _ _) (Nat.le_of_ble_eq_true rfl) rfl) .nil) fun B' a=>⟨by rw [e1];rfl,?_⟩
     rw [e2]
     exact (z9.setM o9 _).fin (o9.putM hx3d ez) a.up a.le
   ·rw [if_neg c6] at e2
    rcases hz3 with ⟨h1,h2⟩|⟨h1,h2⟩
    all_goals
     subst h2
     repeat (first|refine Yr ?_|refine Y11 ?_|refine Y1q ?_|refine Y3s ?_|refine Y1n ?_|refine Y41 ?_|refine Yc ?_|refine Y3 ?_|refine Y2 ?_|refine Y17 ?_|refine Y0 ?_|refine Y2h ?_|refine Y1 ?_|refine Y5 ?_|refine Y6 ?_)
     refine endsK_ret _ (.cons (.baseN (vs:=insC (plainI 2 x3.dst ⟨_,0⟩) none 0) rfl (set_self _ _ _) (Nat.le_of_ble_eq_true rfl) rfl) .nil) fun B' a=>⟨by rw [e1];rfl,?_⟩
     rw [e2]
     exact z8.fin o8 a.up a.le
  ·have hz1:¬ 0≤foundW s x.1:=by rw [hfw];split<;>omega
   have e1:insX s x.1=x3:=by unfold insX;rw [if_neg (by omega),if_neg (by omega),if_neg (by omega),if_neg hz1,hx2,hx3]
   have e2:insM s x.1=if x3.a.reg≠x3.dst∧x3.b.reg≠x3.dst then ⟨(chgC s x3.dst).m,(chgC s x3.dst).w++[(x3,x3.dst)]⟩ else chgC s x3.dst:=by unfold insM;rw [if_neg (by omega),if_neg (by omega),if_neg (by omega),if_neg hz1,hx2,hx3,hd3]
   by_cases c6:x3.a.reg≠x3.dst∧x3.b.reg≠x3.dst
   ·rw [if_pos c6] at e2
    obtain ⟨c7,c8⟩:=c6
    repeat (first|refine Yr ?_|((with_reducible apply RS.loadNB);(iterate 3 exact rfl);first|exact hX;exact hXn;exact Nat.le_of_ble_eq_true rfl;exact rfl|exact hY;exact hYn;exact Nat.le_of_ble_eq_true rfl;exact rfl)|refine Y1n ?_|((with_reducible apply RS.callEx);(iterate 3 exact rfl);intro B1 hB1;refine ⟨_,changed_ex B1 N bb mb s x3.dst (o8.up hB1.up) hwl,?_⟩;rintro v H1 π1 ⟨rfl,o9,k9⟩ sH1 hle1;have z9:=(z8.up hB1.up hB1.le).call (o8.up hB1.up) k9;have hX:=z9.b.x;have hXn:=sH1.dom _ _ hX;have hR:=z9.b.r;have hRn:=sH1.dom _ _ hR;have hM:=o9.hm;have hMn:=sH1.dom _ _ hM;have hs0:=o9.ok.s0;obtain ⟨r9,l9,hl9,hB,hr9⟩:=o9.row;have hBn:=sH1.dom _ _ hB;have hbm:bnd H1.n (.map (some mb)):=(by simpa using hMn);have hXm:=fun w=>(z9.setM o9 w).b.x;have hRm:=fun w=>(z9.setM o9 w).b.r)|refine Y1d ?_|refine Yf ?_|refine Y3 ?_|refine Y2 ?_|refine Y0 ?_|refine Y2k ?_|refine Y1 ?_|refine Y5 ?_|refine Y6 ?_)
    have hne:=o9.ne
    have hgb:=o9.gb
    have hBw:rwM≤bb:=Nat.le_trans o9.rw o9.gb
    have hll:l9.length≤999999999:=by
     have h1:l9.length=(chgC s x3.dst).w.length:=by rw [← hl9];simp
     have h2:(chgC s x3.dst).w.length≤s.w.length:=List.length_filter_le _ _
     omega
    have hXb:=o9.offb hX (by simp)
    have hRb:=o9.offb hR (by simp)
    have fin:∀ (H2 B':Hp) (w:Value) (r':Nat) (w2:Blk),(∀ i b,H1.m i=some b→(b.elem≠130∨i < N)→H2.m i=some b)→H2.n=H1.n→w=rowVl 13 r' (rowK (l9++[⟨(x3,x3.dst),Ax,cx⟩]))→(∀ i b,((H2.set bb ⟨⟨[.map (some mb),w]⟩,98⟩).set rb w2).m i=some b→B'.m i=some b)→H2.n≤B'.n→N≤r'→B'.m r'=some ⟨⟨(rowK (l9++[⟨(x3,x3.dst),Ax,cx⟩])).flatten⟩,130⟩ →
     CseAt B' N bb mb ⟨(chgC s x3.dst).m,(chgC s x3.dst).w++[(x3,x3.dst)]⟩∧KeepI N bb mb x h B'∧(x.1.args≠[]→B'.m x.2=some ⟨⟨argsC (x.1.args.map fun a=>argM s.m a (-1))⟩,46⟩):=by
     intro H2 B' w r' w2 h2 hn hw' hB' hle' hr' hrow
     subst hw'
     have off:∀ {i:Nat} {b:Blk},H1.m i=some b→i≠bb→(b.elem≠130∨i < N)→(H2.set bb ⟨⟨[.map (some mb),rowVl 13 r' (rowK (l9++[⟨(x3,x3.dst),Ax,cx⟩]))]⟩,98⟩).m i=some b:=fun {i b} hb hi he=>by
      show (if i=bb then _ else H2.m i)=_
      rw [if_neg hi];exact h2 i b hb he
     have z10:InsZ h (H2.set bb ⟨⟨[.map (some mb),rowVl 13 r' (rowK (l9++[⟨(x3,x3.dst),Ax,cx⟩]))]⟩,98⟩) N bb mb xb yb rb x (x.1.args.map fun a=>argM s.m a (-1)) x3 y2 Ax cx:=z9.off o9 (fun i b hb hi he=>off hb hi he) (Nat.le_of_eq hn.symm)
     have up:∀ {i:Nat} {b:Blk},(H2.set bb ⟨⟨[.map (some mb),rowVl 13 r' (rowK (l9++[⟨(x3,x3.dst),Ax,cx⟩]))]⟩,98⟩).m i=some b→i≠rb→B'.m i=some b:=fun {i b} hb hi=>hB' i b (by
      show (if i=rb then _ else (H2.set bb _).m i)=_
      rw [if_neg hi];exact hb)
     refine ⟨⟨o9.rw,o9.gb,o9.gm,up (off o9.hm hne (.inl (map_el _ (by decide)))) (fun e=>o9.offm hR (by show 58 < mapM;decide) e.symm),o9.ok,r',l9++[⟨(x3,x3.dst),Ax,cx⟩],by simp [hl9],up (set_self _ _ _) hRb.symm,fun _=>⟨hr',hrow⟩⟩,z10.fin2 hB' (by show H2.n≤_;exact hle')⟩
    by_cases hl0:l9=[]
    ·subst hl0
     have hBe:H1.m bb=some ⟨⟨[.map (some mb),.slice none 0 0]⟩,98⟩:=hB
     have hXs:∀ w,(H1.set bb w).m xb=some ⟨⟨insC x3 Ax cx⟩,58⟩:=fun w=>by
      show (if xb=bb then _ else H1.m xb)=_
      rw [if_neg hXb];exact hX
     have hRs:∀ w,(H1.set bb w).m rb=_:=fun w=>Eq.trans (by
      show (if rb=bb then _ else H1.m rb)=_
      rw [if_neg hRb]) hR
     repeat (first|refine Yr ?_|refine Y11 ?_|((with_reducible apply RS.load1B);(iterate 3 exact rfl);exact hBe;exact hBn;exact rfl)|refine Yn ?_|refine Y3i ?_|((with_reducible apply RS.storeB);(iterate 3 exact rfl);exact hBe;exact hBn;exact hBw;exact Nat.le_of_ble_eq_true rfl;iterate 3 exact rfl)|refine Y4w ?_|refine Y4g ?_|((with_reducible first|apply RS.nilCheck|apply RS.fieldAddr);iterate 3 exact rfl)|refine Y17 ?_|refine Y0 ?_|refine Y18 ?_|refine Y1 ?_)
     refine endsK_ret _ (.cons (.baseN (vs:=insC x3 Ax cx) rfl (set_self _ _ _) (Nat.le_of_ble_eq_true rfl) rfl) .nil) fun B' a=>⟨by rw [e1,hvc3];rfl,?_⟩
     rw [e2]
     exact fin H1 B' _ (π1 1) _ (fun i b hb _=>hb) rfl rfl a.up a.le (Nat.le_trans (Nat.le_trans hgb (Nat.le_of_lt hBn)) (a.lo 1 (by decide:(1:Nat) < 2))) (a.loc 1 (by decide:(1:Nat) < 2))
    ·have hrl:(rowK l9).length=l9.length:=by simp [rowK]
     have hre:rowK l9≠[]:=fun e=>hl0 (rowK_nil.1 e)
     obtain ⟨hrN,hrC⟩:=hr9 hl0
     have hrCn:=sH1.dom _ _ hrC
     have hrCw:rwM≤r9:=Nat.le_trans o9.rw hrN
     have hLl:(rowK l9).flatten.length=(rowK l9).length * 13:=flat_len (rowK_len l9)
     have hBe:H1.m bb=some ⟨⟨[.map (some mb),.slice (some ⟨r9,0,none⟩) (rowK l9).length (capOf 13)]⟩,98⟩:=by rw [hB,rowVl_eq,if_neg hre,if_neg hre]
     have kill:∀ {i:Nat} {b:Blk},H1.m i=some b→(b.elem≠130∨i < N)→(H1.kill r9).m i=some b:=fun {i b} hb he=>by
      show (if i=r9 then none else H1.m i)=_
      rw [if_neg (he.elim (fun he=>ne_of_elem hb hrC he) fun he=>by omega)];exact hb
     have hBk:=kill hBe (.inl (by simp))
     have hXs:∀ w,((H1.kill r9).set bb w).m xb=some ⟨⟨insC x3 Ax cx⟩,58⟩:=fun w=>by
      show (if xb=bb then _ else (H1.kill r9).m xb)=_
      rw [if_neg hXb];exact kill hX (.inl (by simp))
     have hRs:∀ w,((H1.kill r9).set bb w).m rb=_:=fun w=>Eq.trans (by
      show (if rb=bb then _ else (H1.kill r9).m rb)=_
      rw [if_neg hRb]) (kill hR (.inl (by simp)))
     repeat (first|refine Yr ?_|refine Y11 ?_|((with_reducible apply RS.load1B);(iterate 3 exact rfl);exact hBe;exact hBn;exact rfl)|refine Yn ?_|refine Y4w ?_|refine Y4g ?_|((with_reducible apply RS.growL);(iterate 6 exact rfl);exact hrC;exact hrCn;exact hrCw;exact hLl;exact Nat.zero_lt_one;(iterate 3 exact rfl);omega;omega)|((with_reducible apply RS.storeB);(iterate 3 exact rfl);exact hBk;exact hBn;exact hBw;exact Nat.le_of_ble_eq_true rfl;iterate 3 exact rfl)|((with_reducible first|apply RS.nilCheck|apply RS.fieldAddr);iterate 3 exact rfl)|refine Y17 ?_|refine Y0 ?_|refine Y18 ?_|refine Y1 ?_)
     refine endsK_ret _ (.cons (.baseN (vs:=insC x3 Ax cx) rfl (set_self _ _ _) (Nat.le_of_ble_eq_true rfl) rfl) .nil) fun B' a=>⟨by rw [e1,hvc3];rfl,?_⟩
     rw [e2]
     refine fin (H1.kill r9) B' _ (π1 1) _ (fun i b hb he=>kill hb he) rfl ?_ a.up a.le (Nat.le_trans (Nat.le_trans hgb (Nat.le_of_lt hBn)) (a.lo 1 (by decide:(1:Nat) < 2))) ?_
     ·rw [← rowK_append,rowVl_eq,if_neg (by simp),if_neg (by simp)];simp
     ·have:=a.loc 1 (by decide:(1:Nat) < 2)
      rw [this,← rowK_append,List.flatten_append];rfl
   ·rw [if_neg c6] at e2
    by_cases c7:x3.a.reg=x3.dst
    all_goals
     try have c8:x3.b.reg=x3.dst:=Decidable.byContradiction fun e=>c6 ⟨c7,e⟩
     repeat (first|refine Yr ?_|refine Y11 ?_|refine Y1q ?_|refine Y3s ?_|refine Y1n ?_|((with_reducible apply RS.callEx);(iterate 3 exact rfl);intro B1 hB1;refine ⟨_,changed_ex B1 N bb mb s x3.dst (o8.up hB1.up) hwl,?_⟩;rintro v H1 π1 ⟨rfl,o9,k9⟩ sH1 hle1;have z9:=(z8.up hB1.up hB1.le).call (o8.up hB1.up) k9;have hX:=z9.b.x;have hXn:=sH1.dom _ _ hX;have hR:=z9.b.r;have hRn:=sH1.dom _ _ hR;have hM:=o9.hm;have hMn:=sH1.dom _ _ hM;have hs0:=o9.ok.s0;obtain ⟨r9,l9,hl9,hB,hr9⟩:=o9.row;have hBn:=sH1.dom _ _ hB;have hbm:bnd H1.n (.map (some mb)):=(by simpa using hMn);have hXm:=fun w=>(z9.setM o9 w).b.x;have hRm:=fun w=>(z9.setM o9 w).b.r)|refine Yc ?_|refine Yf ?_|refine Y8 ?_|refine Y3 ?_|refine Y2 ?_|refine Ym ?_|refine Y0 ?_|refine Y2a ?_|refine Y1 ?_|refine Y5 ?_|refine Y6 ?_)
     refine endsK_ret _ (.cons (.baseN (vs:=insC x3 Ax cx) rfl (set_self _ _ _) (Nat.le_of_ble_eq_true rfl) rfl) .nil) fun B' a=>⟨by rw [e1,hvc3];rfl,?_⟩
     rw [e2]
     exact z9.fin o9 a.up a.le
theorem insX_args (s:CseS) (x:InsS):(insX s x).args=x.args.map (fun a=>argM s.m a (-1))∨(insX s x).args=[]:=by
 unfold insX
 repeat' split
 all_goals first|exact .inl rfl|exact .inr rfl|(left;rw [turnI_a];rfl)
theorem insM_sub (s:CseS) (x:InsS):(∀ k∈(insM s x).w,k∈s.w∨k.2=x.dst)∧(insM s x).w.length≤s.w.length+1:=by
 have c:∀ (t:CseS) (r:Int),(∀ k∈(chgC t r).w,k∈t.w)∧(chgC t r).w.length≤t.w.length:=fun t r=>⟨fun k hk=>(List.mem_filter.1 hk).1,List.length_filter_le _ _⟩
 have m:(∀ k∈memW s.w,k∈s.w)∧(memW s.w).length≤s.w.length:=⟨fun k hk=>(List.mem_filter.1 hk).1,List.length_filter_le _ _⟩
 unfold insM
 repeat' split
 ·exact ⟨fun k hk=>.inl ((c s _).1 k hk),Nat.le_succ_of_le (c s _).2⟩
 ·exact ⟨fun k hk=>.inl ((c s _).1 k hk),Nat.le_succ_of_le (c s _).2⟩
 ·exact ⟨fun k hk=>.inl (m.1 k ((c ⟨s.m,memW s.w⟩ _).1 k hk)),Nat.le_succ_of_le (Nat.le_trans (c ⟨s.m,memW s.w⟩ _).2 m.2)⟩
 ·exact ⟨fun k hk=>.inl (m.1 k hk),Nat.le_succ_of_le m.2⟩
 ·exact ⟨fun k hk=>.inl hk,Nat.le_succ _⟩
 ·exact ⟨fun k hk=>.inl ((c s _).1 k hk),Nat.le_succ_of_le (c s _).2⟩
 ·exact ⟨fun k hk=>.inl hk,Nat.le_succ _⟩
 ·refine ⟨fun k hk=>?_,?_⟩
  ·rcases List.mem_append.1 hk with hk|hk
   ·exact .inl ((c s _).1 k hk)
   ·rw [List.mem_singleton] at hk;subst hk;exact .inr rfl
  ·have:=(c s x.dst).2
   simp only [List.length_append,List.length_singleton];omega
 ·exact ⟨fun k hk=>.inl ((c s _).1 k hk),Nat.le_succ_of_le (c s _).2⟩
theorem foldM_ok:∀ (l:List InsS) (s:CseS),(∀ x∈l,fitI x.dst)→(∀ k∈s.w,fitI k.2)→(∀ k∈(l.foldl insM s).w,fitI k.2)∧(l.foldl insM s).w.length≤s.w.length+l.length
 | [],s,_,h=>⟨h,Nat.le_refl _⟩
 | x::l,s,hl,h=>by
  obtain ⟨h1,h2⟩:=insM_sub s x
  obtain ⟨g1,g2⟩:=foldM_ok l (insM s x) (fun y hy=>hl y (by simp [hy])) fun k hk=>by
   rcases h1 k hk with e|e
   ·exact h k e
   ·rw [e];exact hl x (by simp)
  exact ⟨g1,by rw [List.foldl_cons,List.length_cons];omega⟩
def cseVs:CseS→List InsV→List InsV
 | _,[]=>[]
 | s,x::xs=>(insX s x.1,x.2)::cseVs (insM s x.1) xs
theorem cseVs_length:∀ (xs:List InsV) (s:CseS),(cseVs s xs).length=xs.length
 | [],_=>rfl
 | x::xs,s=>by rw [cseVs,List.length_cons,List.length_cons,cseVs_length xs]
theorem cseVs_fst:∀ (xs:List InsV) (s:CseS),(cseVs s xs).map (·.1)=insMs s (xs.map (·.1))
 | [],_=>rfl
 | x::xs,s=>by rw [cseVs,List.map_cons,List.map_cons,insMs,cseVs_fst xs]
theorem cseVs_get:∀ {xs:List InsV} {s:CseS} {k:Nat} {x:InsV},xs[k]?=some x→(cseVs s xs)[k]?=some (insX (((xs.take k).map (·.1)).foldl insM s) x.1,x.2)
 | [],_,_,_,h=>by simp at h
 | y::xs,s,0,x,h=>by
  simp only [List.getElem?_cons_zero,Option.some.injEq] at h
  subst h;rfl
 | y::xs,s,k+1,x,h=>by
  simp only [List.getElem?_cons_succ] at h
  rw [cseVs,List.getElem?_cons_succ,cseVs_get h];rfl
def blockCV (b:BV):BV:={ b with ins:=cseVs cse0 b.ins,term:=termM ((b.ins.map (·.1)).foldl insM cse0).m b.term }
theorem blockCV_s (b:BV):(blockCV b).s=blockM b.s:=by
 unfold blockCV BV.s blockM
 rw [cseVs_fst]
theorem sL_cse (bv:List BV):sL (bv.map blockCV)=(sL bv).map blockM:=by
 unfold sL
 rw [List.map_map,List.map_map]
 exact List.map_congr_left fun b _=>blockCV_s b
instance:TySz Tryd.prog 98 2:=by infer_instance
set_option maxHeartbeats 2000000 in
set_option maxRecDepth 100000 in
theorem cfunc_ex (h:Hp) (N bb:Nat) (bv:List BV) (f:FuncS) (A1:Option Addr) (c1:Nat) (A2:Option Addr) (c2 c3:Nat) (hown:OwnA h N bb bv) (hlen:bv.length≤100000) (hins:∀ b∈bv,b.ins.length≤1000000) (hok:∀ b∈bv,∀ x∈b.ins,x.1.ok∧x.1.args.length≤1000000) :
 EX Tryd.prog 30 [.agg ⟨funcC { f with blocks:=sL bv } A1 c1 A2 c2 (some ⟨bb,0,none⟩) c3⟩] h (fun v h'=>v=.agg ⟨funcC { f with blocks:=sL (bv.map blockCV) } A1 c1 A2 c2 (some ⟨bb,0,none⟩) c3⟩∧OwnA h' N bb (bv.map blockCV)∧OffS (fun j=>N≤j) h h'∧∀ j x,h.m j=some x→x.elem≠50→x.elem≠58→x.elem≠46→h'.m j=some x):=by
 refine EX.intro (fn:=Tryd.f30) (c:=(Tryd.f30.body.getD .skip)) Tryd.func30 (by kernel_rfl) Tryd.ntmps30 (by kernel_rfl) fun π s0=>?_
 conv=>arg 2;whnf
 have hd:=s0.dom
 obtain ⟨n,hn⟩:∃ n,bv.length=n:=⟨_,rfl⟩
 obtain ⟨FC,hFC⟩:∃ FC:List Value,FC=[.string f.name,.int .i64 f.params,.slice A1 f.secret c1,.int .i64 f.regs,.slice A2 f.slots.length c2,.slice (some ⟨bb,0,none⟩) n c3]:=⟨_,rfl⟩
 have hfc:funcC { f with blocks:=sL bv } A1 c1 A2 c2 (some ⟨bb,0,none⟩) c3=FC:=by rw [hFC];unfold funcC;rw [sL_length,hn]
 ((with_reducible apply W.seq);repeat (first|refine Yd ?_|((with_reducible apply RS.box);iterate 3 exact rfl)|refine Y0 ?_|refine Y1 ?_|refine Y12 ?_))
 refine W.absorbX fun B0 π0 a0=>?_
 have hF0:B0.m (π 0)=some ⟨⟨funcC { f with blocks:=sL bv } A1 c1 A2 c2 (some ⟨bb,0,none⟩) c3⟩,37⟩:=a0.loc 0 (Nat.lt_of_lt_of_le Nat.zero_lt_one (Nat.le_succ 1))
 have hR0:B0.m (π 1)=some ⟨⟨cellsV (.agg ⟨funcC ⟨⟨#[]⟩,0,0,0,[],[]⟩ none 0 none 0 none 0⟩)⟩,37⟩:=a0.loc 1 (Nat.lt_succ_self 1)
 have hfb:h.n≤π 0:=a0.lo 0 (Nat.lt_of_lt_of_le Nat.zero_lt_one (Nat.le_succ 1))
 have hrb:h.n≤π 1:=a0.lo 1 (Nat.lt_succ_self 1)
 have hfr:π 0≠π 1:=fun e=>absurd (a0.inj 0 1 (Nat.lt_of_lt_of_le Nat.zero_lt_one (Nat.le_succ 1)) (Nat.lt_succ_self 1) e) (by decide)
 generalize π 0=fb at *
 generalize π 1=rb at *
 rw [hfc,hFC] at hF0
 have hF:=hF0
 have hFn:=a0.dom _ _ hF
 have hN:N≤h.n:=Nat.le_trans hown.ge (Nat.le_of_lt (hd _ _ hown.m))
 obtain ⟨Fv,hFv⟩:∃ Fv,bv.map blockCV=Fv:=⟨_,rfl⟩
 have hFl:Fv.length=bv.length:=by rw [← hFv];simp
 repeat (first|refine Y2j ?_|refine Y1z ?_|refine Y0 ?_|refine Y19 ?_|refine Y1 ?_)
 refine W.loopN (X:=Nat) (fun i=>[(1,.pointer (some ⟨fb,0,none⟩)),(2,.pointer (some ⟨rb,0,none⟩)),(9,.slice (some ⟨bb,0,none⟩) n c3),(10,.int .i64 (n:Int)),(11,.int .i64 (i:Int))])
  (fun i B=>i≤n∧OwnA B N bb (mixL Fv bv i)∧FunI B fb rb FC∧KeepH h N B) (fun i=>n - i)
  (fun B' y=>⟨0,?_,⟨Nat.zero_le _,?_,⟨?_,?_⟩,?_⟩⟩) ?_
 ·(repeat' (first|exact trivial|exact rfl|apply And.intro));done
 ·rw [mixL_zero];exact hown.up fun i b hb=>y.up _ _ (a0.up _ _ hb)
 ·rw [hFC];exact y.up _ _ hF0
 ·exact y.up _ _ hR0
 ·exact ⟨(a0.oldH.trans y.oldH).off.mono (fun _ _ e=>False.elim e),fun j x hx _ _ _=>y.up _ _ (a0.up _ _ hx)⟩
 rintro i B π1 sB ⟨hi,hA,hFI,hK⟩
 have hF:=hFI.f
 have hFn:=sB.dom _ _ hF
 rw [hFC] at hF
 by_cases hlt:i < n
 ·obtain ⟨b,hb⟩:∃ b,bv[i]?=some b:=⟨_,List.getElem?_eq_getElem (by omega)⟩
  have hbm:=List.mem_of_getElem? hb
  have hbi:(mixL Fv bv i)[i]?=some b:=by rw [mixL_at hFl];exact hb
  have hBm:=hA.m
  have hBmn:=sB.dom _ _ hBm
  obtain ⟨Ab,cb,hvb,hAb⟩:∃ Ab cb,rowVl 12 b.r b.ins=.slice Ab b.ins.length cb∧Ab=if b.ins=[] then none else some ⟨b.r,0,none⟩:=by
   rw [rowVl_eq];exact ⟨_,_,rfl,rfl⟩
  have hFi:Fv[i]?=some (blockCV b):=by rw [← hFv,List.getElem?_map,hb];rfl
  have hbl:=hins b hbm
  repeat (first|((with_reducible apply RS.makeMap);iterate 2 exact rfl)|refine Y2j ?_|refine Y55 ?_|((with_reducible apply RS.load1B);(iterate 3 exact rfl);exact hBm;exact hBmn;exact bv_cell hbi (o:=0) (by omega) (by decide) (congrArg some hvb))|refine Y1w ?_|refine Y3 ?_|refine Y17 ?_|refine Y0 ?_|refine Y24 ?_|refine Y1 ?_|refine Y5 ?_)
  refine W.absorbX fun B1 π2 a1=>?_
  have hM1:B1.m (π1 0)=some ⟨⟨[]⟩,mapE ⟨0,0,[]⟩⟩:=a1.loc 0 (Nat.lt_of_lt_of_le Nat.zero_lt_one (Nat.le_succ 1))
  have hC1:B1.m (π1 1)=some ⟨⟨[.map (some (π1 0)),.slice none 0 0]⟩,98⟩:=a1.loc 1 (Nat.lt_succ_self 1)
  have hmg:B.n≤π1 0:=a1.lo 0 (Nat.lt_of_lt_of_le Nat.zero_lt_one (Nat.le_succ 1))
  have hcg:B.n≤π1 1:=a1.lo 1 (Nat.lt_succ_self 1)
  generalize π1 0=mb at *
  generalize π1 1=qb at *
  have oc1:CseAt B1 B.n qb mb cse0:=⟨sB.rw,hcg,hmg,hM1,.empty,0,[],rfl,hC1,fun e=>absurd rfl e⟩
  replace hBm:=a1.up _ _ hBm
  replace hBmn:=a1.dom _ _ hBm
  have hNB:N≤B.n:=Nat.le_trans hN hK.off.1
  obtain ⟨N1,hN1⟩:∃ N1,B.n=N1:=⟨_,rfl⟩
  rw [hN1] at oc1
  refine W.loopN (X:=Nat) (fun k=>[(1,.pointer (some ⟨fb,0,none⟩)),(2,.pointer (some ⟨rb,0,none⟩)),(9,.slice (some ⟨bb,0,none⟩) n c3),(10,.int .i64 (n:Int)),(11,.int .i64 (i:Int)),(4,.pointer (some ⟨qb,0,none⟩)),(5,.pointer (some ⟨bb,0+i * 9,none⟩)),(24,.slice Ab b.ins.length cb),(25,.int .i64 (b.ins.length:Int)),(26,.int .i64 (k:Int))])
   (fun k B=>k≤b.ins.length∧OwnA B N bb ((mixL Fv bv i).set i { b with ins:=mixL (cseVs cse0 b.ins) b.ins k })∧CseAt B N1 qb mb (((b.ins.take k).map (·.1)).foldl insM cse0)∧FunI B fb rb FC∧KeepH h N B) (fun k=>b.ins.length - k)
   (fun B' y=>⟨0,?_,⟨Nat.zero_le _,?_,oc1.up y.up,⟨y.up _ _ (a1.up _ _ hFI.f),y.up _ _ (a1.up _ _ hFI.r)⟩,(hK.off.same a1.oldH.off).same y.oldH.off,fun j z h1 h2 h3 h4=>y.up _ _ (a1.up _ _ (hK.oth j z h1 h2 h3 h4))⟩⟩) ?_
  ·(repeat' (first|exact trivial|exact rfl|apply And.intro));done
  ·rw [mixL_zero,set_same hbi];exact hA.up fun i b hb=>y.up _ _ (a1.up _ _ hb)
  rintro k B3 π3 sB3 ⟨hk,hA3,hO3,hFI3,hK3⟩
  have hvl:(cseVs cse0 b.ins).length=b.ins.length:=cseVs_length _ _
  obtain ⟨bk,hbk⟩:∃ bk:BV,bk={ b with ins:=mixL (cseVs cse0 b.ins) b.ins k }:=⟨_,rfl⟩
  rw [← hbk] at hA3
  have hbw:((mixL Fv bv i).set i bk)[i]?=some bk:=by rw [List.getElem?_set,if_pos rfl,if_pos (by rw [mixL_length hFl];omega)]
  have hbkr:bk.r=b.r:=by rw [hbk]
  have hbki:bk.ins=mixL (cseVs cse0 b.ins) b.ins k:=by rw [hbk]
  by_cases hkl:k < b.ins.length
  ·obtain ⟨x,hx⟩:∃ x,b.ins[k]?=some x:=⟨_,List.getElem?_eq_getElem hkl⟩
   have hbn:b.ins≠[]:=by intro e;rw [e] at hkl;exact absurd hkl (Nat.not_lt_zero _)
   have hbkx:bk.ins[k]?=some x:=by rw [hbki,mixL_at hvl];exact hx
   have hbkn:bk.ins≠[]:=by intro e;rw [e] at hbkx;simp at hbkx
   obtain ⟨hrN,hrow3⟩:=hA3.row bk (List.mem_of_getElem? hbw) hbkn
   rw [hbkr] at hrN hrow3
   have harg3:=fun hn=>hA3.arg bk (List.mem_of_getElem? hbw) x (List.mem_of_getElem? hbkx) hn
   have hrow3n:=sB3.dom _ _ hrow3
   obtain ⟨hXv0,hXl⟩:=flat_take (ins_wid bk.ins) (i:=k) (x:=insVC x) (by rw [List.getElem?_map,hbkx];rfl)
   obtain ⟨Ax,cx,hxc⟩:∃ Ax cx,insVC x=insC x.1 Ax cx:=⟨_,_,insVC_eq x⟩
   have hXv:takeV (0+k * 12) 12 (bk.ins.map insVC).flatten=insC x.1 Ax cx:=by rw [Nat.zero_add,hXv0,hxc]
   have hXl:0+k * 12+12≤(bk.ins.map insVC).flatten.length:=by omega
   rw [if_neg hbn] at hAb
   subst hAb
   obtain ⟨sk,hsk⟩:∃ sk,((b.ins.take k).map (·.1)).foldl insM cse0=sk:=⟨_,rfl⟩
   rw [hsk] at hO3
   have hxm:=List.mem_of_getElem? hx
   obtain ⟨hxok,hxna⟩:=hok b hbm x hxm
   obtain ⟨hskf,hskl⟩:=foldM_ok ((b.ins.take k).map (·.1)) cse0 (fun y hy=>by
    obtain ⟨z,hz,rfl⟩:=List.mem_map.1 hy
    exact (hok b hbm z (List.mem_of_mem_take hz)).1.dst) (fun j hj=>by cases hj)
   rw [hsk] at hskf hskl
   have hskl:sk.w.length≤999999999:=by
    have h1:((b.ins.take k).map (·.1)).length≤k:=by rw [List.length_map,List.length_take];omega
    have h2:cse0.w.length=0:=rfl
    omega
   ((with_reducible apply W.seq);repeat (first|refine Y3 ?_|refine Y0 ?_|refine Y1 ?_|refine Y12 ?_))
   ((with_reducible apply W.seq);repeat (first|refine Y2z ?_|refine Y5 ?_))
   ((with_reducible apply W.seq);repeat (first|(with_reducible apply W.block)))
   ((with_reducible apply W.seq);((with_reducible apply W.reg);kernel_rfl);repeat (first|((with_reducible apply RS.indexAddrS);(iterate 5 exact rfl);exact hkl)|((with_reducible apply RS.loadNB);(iterate 3 exact rfl);exact hrow3;exact hrow3n;exact hXl;exact hXv)|refine Ye ?_|refine Y4 ?_|refine Yd ?_|refine Y0 ?_));(with_reducible apply thenK_n)
   refine W.absorbX fun C π4 a3=>?_
   have hX0:C.m (π3 0)=some ⟨⟨insC x.1 Ax cx⟩,58⟩:=a3.loc 0 Nat.zero_lt_one
   generalize π3 0=yb at *
   have hX:=hX0
   have hXn:=a3.dom _ _ hX
   replace hA3:=hA3.up a3.up
   replace hO3:=hO3.up a3.up
   replace hFI3:FunI C fb rb FC:=⟨a3.up _ _ hFI3.f,a3.up _ _ hFI3.r⟩
   replace hK3:KeepH h N C:=⟨hK3.off.same a3.oldH.off,fun j z h1 h2 h3 h4=>a3.up _ _ (hK3.oth j z h1 h2 h3 h4)⟩
   replace hrow3:=a3.up _ _ hrow3
   replace hrow3n:=a3.dom _ _ hrow3
   have harg3:=fun hn=>hA3.arg bk (List.mem_of_getElem? hbw) x (List.mem_of_getElem? hbkx) hn
   have hvbk:rowVl 12 bk.r bk.ins=.slice (some ⟨b.r,0,none⟩) b.ins.length cb:=by
    rw [← hvb,hbkr,rowVl_eq,rowVl_eq,if_neg hbkn,if_neg hbkn,if_neg hbn,if_neg hbn,hbki,mixL_length hvl]
   have hBX:=hA3.m
   have hBXn:=a3.dom _ _ hBX
   have hrw3:rwM≤b.r:=Nat.le_trans hA3.rw hrN
   have hsetr:setL (bk.ins.map insVC).flatten (0+k * 12) (cellsV (.agg ⟨insVC (insX sk x.1,x.2)⟩))=((bk.ins.set k (insX sk x.1,x.2)).map insVC).flatten:=by
    have:=flat_set (ins_wid bk.ins) (i:=k) (o:=0) (x:=insVC x) (vs:=insVC (insX sk x.1,x.2)) (by rw [List.getElem?_map,hbkx];rfl) (Nat.le_refl _)
    rw [Nat.zero_add]
    rw [Nat.add_zero] at this
    rw [List.map_set]
    exact this
   have hki:∀ (B4 H':Hp),(∀ i b,C.m i=some b→B4.m i=some b)→KeepI N1 qb mb x B4 H'→∀ {j:Nat} {z:Blk},C.m j=some z→(z.elem=50∨z.elem=58∨z.elem=46∨z.elem=37)→(x.1.args≠[]→j≠x.2)→H'.m j=some z:=fun B4 H' hu ki j z hz he hn =>
    ki.m j z (hu _ _ hz) (hO3.offb hz (by rcases he with e|e|e|e<;>rw [e]<;>decide)) (hO3.offm hz (by rcases he with e|e|e|e<;>rw [e]<;>decide)) (.inl (by rcases he with e|e|e|e<;>rw [e]<;>decide)) hn
   have hbb4:∀ (B4 H':Hp),(∀ i b,C.m i=some b→B4.m i=some b)→KeepI N1 qb mb x B4 H'→∀ j,(!(j == bb))=false→H'.m j=B4.m j:=fun B4 H' hu ki j hj=>by
    have e:j=bb:=by simpa using hj
    rw [e,hki B4 H' hu ki hA3.m (.inl rfl) fun hn=>ne_of_elem hA3.m (harg3 hn).2 (by simp),hu _ _ hA3.m]
   have hr5:∀ (B4 H':Hp),(∀ i b,C.m i=some b→B4.m i=some b)→KeepI N1 qb mb x B4 H'→(cutH H' C.n).m b.r=some ⟨⟨(bk.ins.map insVC).flatten⟩,58⟩:=fun B4 H' hu ki=>by
    show (if b.r < C.n then H'.m b.r else none)=_
    rw [if_pos hrow3n]
    exact hki B4 H' hu ki hrow3 (.inr (.inl rfl)) fun hn=>ne_of_elem hrow3 (harg3 hn).2 (by simp)
   have hci:=fun (B4:Hp) (hu:∀ i b,C.m i=some b→B4.m i=some b)=>cins_ex x sk hxok hxna hskl hskf B4 N1 qb mb (hO3.up hu) (fun hn=>⟨Nat.le_trans hA3.rw (harg3 hn).1,hu _ _ (harg3 hn).2⟩)
   rw [hxc] at hci
   repeat (first|((with_reducible apply RS.indexAddrS);(iterate 5 exact rfl);exact hkl)|((with_reducible apply RS.load1X);(iterate 3 exact rfl);exact hBX;exact hBXn;exact bv_cell hbw (o:=0) (by omega) (by decide) (congrArg some hvbk))|refine Y11 ?_|((with_reducible apply (RS.callYE (fun id=>!(id == bb))));(iterate 3 exact rfl);intro B4 he4 hB4;refine ⟨_,hci B4 hB4.up,(fun v H' hq j hj hej=>hbb4 B4 H' hB4.up hq.2.2.1 j hej),?_⟩;rintro v H5 k5 l5 ⟨rfl,o5,ki5,hv5⟩ sH5 hle5 hm5 hden5 hwf5 hk5;have hrow5:=hr5 B4 H5 hB4.up ki5)|((with_reducible apply RS.storeB);(iterate 3 exact rfl);exact hrow5;exact hrow3n;exact hrw3;exact hXl;exact rfl;exact insVC_one _;exact hsetr)|((with_reducible apply (RS.nilPX mixed [(3,4),(2,4),(1,4),(0,4),(4,5),(3,5),(2,5),(1,5),(0,5),(5,6),(4,6),(3,6),(2,6),(1,6),(0,6),(4,7),(3,7),(2,7),(1,7),(0,7)]));kernel_rfl;(repeat (refine ⟨fun x y hx hy=>(by obtain rfl:=Option.some.inj hx;obtain rfl:=Option.some.inj hy;exact pairR_free rfl rfl rfl rfl rfl rfl rfl (Nat.zero_le _) rfl),?_⟩));exact trivial;exact sideBut_all (b:=bb) (by repeat' (first|exact trivial|exact .inl rfl|exact .inr rfl|apply And.intro)))|refine Y29 ?_|refine Yb ?_|refine Y0 ?_|refine Y1 ?_|(with_reducible first|apply thenK_n|apply blockK_n))
   have hnext:((b.ins.take (k+1)).map (·.1)).foldl insM cse0=insM sk x.1:=by
    rw [List.take_add_one,hx,List.map_append,List.foldl_append,hsk];rfl
   have hbset:(mixL Fv bv i).set i { b with ins:=mixL (cseVs cse0 b.ins) b.ins (k+1) }=((mixL Fv bv i).set i bk).set i { bk with ins:=bk.ins.set k (insX sk x.1,x.2) }:=by
    rw [List.set_set]
    congr 1
    rw [hbk]
    dsimp only
    rw [mixL_set hvl (by rw [cseVs_get hx,hsk])]
   refine roundN_n rfl fun B' y=>?_
   have keep9:∀ {j:Nat} {z:Blk},H5.m j=some z→j≠b.r→B'.m j=some z:=fun {j z} hz hj=>by
    by_cases hlt:j < C.n
    ·refine y.up _ _ ?_
     show (if j=b.r then _ else if j < C.n then H5.m j else none)=_
     rw [if_neg hj,if_pos hlt];exact hz
    ·exact Absb.part hden5 (B2:=(cutH H5 C.n).set b.r _) rfl (Nat.le_refl _) (fun _ _=>rfl) y j z (by show C.n≤j;omega) hz
   have keepE:∀ {j:Nat} {z:Blk},C.m j=some z→(z.elem=50∨z.elem=58∨z.elem=46∨z.elem=37)→j≠b.r→(x.1.args≠[]→j≠x.2)→B'.m j=some z:=fun hz he hj hn=>keep9 (hki B4 H5 hB4.up ki5 hz he hn) hj
   refine ⟨k+1,?_,⟨hkl,?_,?_,⟨?_,?_⟩,?_⟩,by omega⟩
   ·(repeat' (first|exact trivial|exact rfl|apply And.intro));done
   ·rw [hbset]
    refine hA3.setX hbw hbkx (insX sk x.1) (fun hn e=>?_) (by rw [hbkr];exact y.up _ _ (set_self _ _ _)) (fun hn=>?_) fun p z hz hE h1 h2=>keepE hz (by rcases hE with e|e|e<;>simp [e]) (by rw [← hbkr];exact h1) h2
    ·apply hn
     rcases insX_args sk x.1 with h1|h1
     ·rw [h1,e];rfl
     ·exact h1
    ·rcases insX_args sk x.1 with h1|h1
     ·rw [h1]
      have:=hv5 (fun e=>hn (by rw [h1,e];rfl))
      exact keep9 this (ne_of_elem (hki B4 H5 hB4.up ki5 hrow3 (.inr (.inl rfl)) fun hn=>ne_of_elem hrow3 (harg3 hn).2 (by simp)) this (by simp)).symm
     ·exact absurd h1 hn
   ·rw [hnext]
    exact o5.keep fun j z hz _ he=>keep9 hz (ne_of_elem hz (hki B4 H5 hB4.up ki5 hrow3 (.inr (.inl rfl)) fun hn=>ne_of_elem hrow3 (harg3 hn).2 (by simp)) he)
   ·exact keepE hFI3.f (.inr (.inr (.inr rfl))) (ne_of_elem hFI3.f hrow3 (by simp)) fun hn=>ne_of_elem hFI3.f (harg3 hn).2 (by simp)
   ·exact keepE hFI3.r (.inr (.inr (.inr rfl))) (ne_of_elem hFI3.r hrow3 (by simp)) fun hn=>ne_of_elem hFI3.r (harg3 hn).2 (by simp)
   ·refine ⟨hK3.off.trans (S:=fun j=>N≤j) (T:=fun j=>N≤j) ⟨Nat.le_trans (Nat.le_trans hB4.le hle5) (by rw [← hden5];exact Nat.le_of_eq y.n.symm),fun j hj hn=>?_⟩ fun j _ e=>e,fun j z h1 h2 h3 h4=>?_⟩
    ·cases hc:C.m j with
     | some z =>
      have g1:=ki5.m j z (hB4.up _ _ hc) (by omega) (by omega) (.inr (by omega)) fun hn' e=>by have:=(harg3 hn').1;omega
      exact keep9 g1 (by omega)
     | none =>
      have g1:B'.m j=((cutH H5 C.n).set b.r _).m j:=y.old j hj
      rw [g1]
      show (if j=b.r then _ else if j < C.n then H5.m j else none)=none
      rw [if_neg (by omega),if_pos hj]
      cases h5:H5.m j with
      | none=>rfl
      | some w =>
       obtain ⟨w',hw'⟩:=hm5 j w (Nat.lt_of_lt_of_le hj hB4.le) h5
       have g2:B4.m j=C.m j:=hB4.old j hj
       rw [g2,hc] at hw';cases hw'
    ·have hz:=hK3.oth j z h1 h2 h3 h4
     have hjh:=hd j z h1
     have hBh:=hK.off.1
     exact keep9 (ki5.m j z (hB4.up _ _ hz) (by omega) (by omega) (.inr (by omega)) fun hn'=>ne_of_elem hz (harg3 hn').2 h4) (ne_of_elem hz hrow3 h3)
  ·have hkk:k=b.ins.length:=by omega
   subst hkk
   rw [List.take_length] at hO3
   obtain ⟨so,hso⟩:∃ so,(b.ins.map (·.1)).foldl insM cse0=so:=⟨_,rfl⟩
   rw [hso] at hO3
   rw [mixL_all hvl] at hbki
   obtain ⟨bw,hbw2⟩:∃ bw,(mixL Fv bv i).set i bk=bw:=⟨_,rfl⟩
   rw [hbw2] at hA3 hbw
   have hbt:bk.term=b.term:=by rw [hbk]
   obtain ⟨b2,hb2⟩:∃ b2:BV,b2={ bk with term:={ b.term with a:=argM so.m b.term.a (-1) } }:=⟨_,rfl⟩
   obtain ⟨b3,hb3⟩:∃ b3:BV,b3={ bk with term:=termM so.m b.term }:=⟨_,rfl⟩
   have hbwi2:(bw.set i b2)[i]?=some b2:=by rw [List.getElem?_set,if_pos rfl,if_pos (List.getElem?_eq_some_iff.1 hbw).1]
   have hBm:=hA3.m
   have hBmn:=sB3.dom _ _ hBm
   have hbbw:rwM≤bb:=Nat.le_trans hA3.rw hA3.ge
   obtain ⟨hTa,hTal⟩:=bv_cells hbw (o:=3) (n:=2) (off:=0+i * 9+1+2) (by omega) (by decide)
   obtain ⟨hTb,hTbl⟩:=bv_cells hbw (o:=5) (n:=2) (off:=0+i * 9+1+4) (by omega) (by decide)
   have hTa:takeV (0+i * 9+1+2) 2 (bw.map BV.c).flatten=argC b.term.a:=by rw [hTa,← hbt];rfl
   have hTb:takeV (0+i * 9+1+4) 2 (bw.map BV.c).flatten=argC b.term.b:=by rw [hTb,← hbt];rfl
   have hS1:setL (bw.map BV.c).flatten (0+i * 9+1+2) (cellsV (.agg ⟨argC (argM so.m b.term.a (-1))⟩))=((bw.set i b2).map BV.c).flatten:=bv_write (o:=3) hbw (by omega) (show 3+2≤9 by decide) (by rw [hb2,← hbt];rfl)
   have hS2:setL ((bw.set i b2).map BV.c).flatten (0+i * 9+1+4) (cellsV (.agg ⟨argC (argM so.m b.term.b (-1))⟩))=((bw.set i b3).map BV.c).flatten:=by
    rw [bv_write (o:=5) (b':=b3) (vs:=cellsV (.agg ⟨argC (argM so.m b.term.b (-1))⟩)) hbwi2 (by omega) (show 5+2≤9 by decide) (by rw [hb2,hb3];rfl),List.set_set]
   have hS2l:0+i * 9+1+4+2≤((bw.set i b2).map BV.c).flatten.length:=(bv_cells hbwi2 (o:=5) (n:=2) (off:=0+i * 9+1+4) (by omega) (by decide)).2
   repeat (first|((with_reducible apply RS.callB);(iterate 3 exact rfl);exact fun H hH=>carg_tf _ _ H N1 qb mb so (hO3.up (base_up sB3.dom hH));exact Nm_free (by simp [argC]))|((with_reducible apply RS.loadNB);(iterate 3 exact rfl);first|exact hBm;exact hBmn;exact hTal;exact hTa|exact hBm;exact hBmn;exact hTbl;exact hTb)|((with_reducible apply RS.storeB);(iterate 3 exact rfl);first|exact hBm;exact hBmn;exact hbbw;exact hTal;(iterate 2 exact rfl);exact hS1|exact set_self _ _ _;exact hBmn;exact hbbw;exact hS2l;(iterate 2 exact rfl);exact hS2)|refine Y29 ?_|refine Y2 ?_|refine Yb ?_|refine Y0 ?_|refine Y44 ?_|refine Y1 ?_|refine Y6 ?_|refine Yi ?_)
   refine roundN_n rfl fun B' y=>?_
   have off':OffS (fun p=>p=bb) B3 B':=((OffS.set B3 bb _).trans (S:=fun p=>p=bb) (OffS.set _ bb _) fun p _ e=>e).same y.oldH.off
   have keep':∀ {p:Nat} {z:Blk},B3.m p=some z→z.elem≠50→B'.m p=some z:=fun {p z} hz he=>by
    rw [off'.2 p (sB3.dom p z hz) (ne_of_elem hz hBm he)];exact hz
   refine ⟨i+1,?_,⟨hlt,?_,⟨keep' hFI3.f (by simp),keep' hFI3.r (by simp)⟩,⟨hK3.off.trans off' fun p hp e=>by rw [e];exact hA3.ge,fun p z h1 h2 h3 h4=>keep' (hK3.oth p z h1 h2 h3 h4) h2⟩⟩,by omega⟩
   ·(repeat' (first|exact trivial|exact rfl|apply And.intro));done
   ·have:=hA3.setT hbw (termM so.m b.term) (by rw [← hb3];exact y.up _ _ (set_self _ _ _)) fun p z hz he=>keep' hz he
    have e:bw.set i { bk with term:=termM so.m b.term }=mixL Fv bv (i+1):=by
     rw [← mixL_set hFl hFi,← hbw2,List.set_set]
     congr 1
     rw [← hso]
     unfold blockCV
     rw [← hbki,hbk]
    rw [← e];exact this
 ·have hin:i=n:=by omega
  subst hin
  have hR:=hFI.r
  have hRn:=sB.dom _ _ hR
  have hRw:rwM≤rb:=Nat.le_trans s0.rw hrb
  rw [← hn,mixL_all hFl] at hA
  repeat (first|((with_reducible apply RS.loadNB);(iterate 3 exact rfl);exact hF;exact hFn;exact Nat.le_of_ble_eq_true rfl;exact rfl)|refine Y1q ?_|refine Y2 ?_|refine Y0 ?_|refine Y20 ?_|refine Y1 ?_|refine Y6 ?_|refine Yi ?_)
  refine endsK_ret _ (.cons (.baseN (vs:=[.string f.name,.int .i64 f.params,.slice A1 f.secret c1,.int .i64 f.regs,.slice A2 f.slots.length c2,.slice (some ⟨bb,0,none⟩) i c3]) rfl (by show (if rb=rb then _ else _)=_;rw [if_pos rfl]) (Nat.le_of_ble_eq_true rfl) rfl) .nil) fun B' x=>?_
  have hk:∀ {j:Nat} {y:Blk},B.m j=some y→y.elem≠37→B'.m j=some y:=fun {j y} hy he=>by
   refine x.up j y ?_
   show (if j=rb then _ else B.m j)=_
   rw [if_neg (ne_of_elem hy hR he)];exact hy
  refine ⟨?_,hFv ▸ hA.keep fun j y hy he=>hk hy ?_,(hK.off.same ((OffS.set B rb _).mono fun j hj e=>?_)).same x.oldH.off,fun j y h1 h2 h3 h4=>?_⟩
  ·rw [hFv]
   show Value.agg _=Value.agg _
   unfold funcC
   rw [sL_length,hFl,hn]
  ·rcases he with e|e|e<;>rw [e]<;>decide
  ·rw [e];exact Nat.le_trans hN hrb
  ·refine x.up j y ?_
   show (if j=rb then _ else B.m j)=_
   rw [if_neg (fun e=>by have:=hd j y h1;omega)]
   exact hK.oth j y h1 h2 h3 h4
theorem cse_turn:TurnEX 30 (fun f=>OkL f.regs f.blocks∧InsOK f) CseR:=by
 intro B N bb bv f A1 c1 A2 c2 sec hK hsec hN hbb hm hod hsl hr1 hr2
 obtain ⟨hok,hio⟩:=hK
 obtain ⟨nm,pa,se,rg,sl,bl⟩:=f
 have hsl:sL bv=bl:=hsl
 subst hsl
 have hown:=hod.ownA hN hbb hm
 have hbs:∀ b∈bv,b.s∈sL bv:=fun b hb=>List.mem_map_of_mem hb
 refine (cfunc_ex B N bb bv ⟨nm,pa,se,rg,sl,sL bv⟩ A1 c1 A2 c2 (capOf 9) hown ?_ (fun b hb=>?_) (fun b hb x hx=>?_)).mono ?_
 ·have:=hok.len;dsimp only at this;rw [sL_length] at this;omega
 ·have h1:=Nat.le_trans (sizeS_le (hbs b hb)) hok.size
  have h2:b.s.ins.length=b.ins.length:=by simp [BV.s]
  omega
 ·have hx':x.1∈b.s.ins:=List.mem_map_of_mem hx
  exact ⟨(hio _ (hbs b hb) _ hx').1,(hok.fit _ (hbs b hb) _ hx').1⟩
 rintro v h' s ⟨rfl,hown',hoff,hoth⟩
 have row:∀ {α:Type} {e:TypeId} {A:Option Addr} {l:List α} {enc:α→Value},e≠50→e≠58→e≠46→e≠37→e≠25→RowE B N e A l enc→RowE (cutE h') N e A l enc:=by
  intro α e A l enc h1 h2 h3 h4 h5 hr
  exact hr.up fun i b hb hbe=>cutE_in (hoth i b hb (by rw [hbe];exact h1) (by rw [hbe];exact h2) (by rw [hbe];exact h3)) (by rw [hbe];exact h4) (by rw [hbe];exact h5)
 refine ⟨_,_,rfl,⟨A1,c1,A2,c2,some ⟨bb,0,none⟩,capOf 9,sec,rfl,hsec,(row (by decide) (by decide) (by decide) (by decide) (by decide) hr1).sl fun _=>rfl,(row (by decide) (by decide) (by decide) (by decide) (by decide) hr2).sl fun _=>rfl,?_⟩,?_,hoff⟩
 ·exact hown'.own.cut.sl
 ·unfold CseR cseF
  rw [sL_cse]
theorem cse_prog_ex (p:ProgS) (hK:∀ f∈p.funcs,(OkL f.regs f.blocks∧InsOK f)∧CopyOK f) (hn:p.funcs.length≤100000) (h:Hp) (pb:Nat) (e:TypeId) (A1:Option Addr) (c1:Nat) (A2:Option Addr) (c2:Nat) (hP:h.m pb=some ⟨⟨progC p A1 c1 A2 c2⟩,e⟩) (hs:SlAt h A1 6 p.funcs (funcRS h)) :
 EX Tryd.prog 29 [.pointer (some ⟨pb,0,none⟩)] h (fun v h'=>∃ ob A c fs,v=.pointer (some ⟨ob,0,none⟩)∧h'.m ob=some ⟨⟨progC { p with funcs:=fs } A c A2 c2⟩,25⟩∧SlAt h' A 6 fs (funcRS h')∧fs.length=p.funcs.length∧(∀ (i:Nat) (f f':FuncS),p.funcs[i]?=some f→fs[i]?=some f'→CseR f f')∧Old h h'∧h.n≤ob):=by
 refine EX.intro (fn:=Tryd.f29) (c:=(Tryd.f29.body.getD .skip)) Tryd.func29 (by kernel_rfl) Tryd.ntmps29 (by kernel_rfl) fun π s0=>?_
 conv=>arg 2;whnf
 repeat (first|((with_reducible apply RS.callEx);(iterate 3 exact rfl);intro B1 hB1;refine ⟨_,each_ex 30 _ _ cse_turn p hK hn B1 pb e A1 c1 A2 c2 (hB1.up _ _ hP) (hs.mono hB1.up fun _ _ h=>funcRS_mono hB1.up h),?_⟩;rintro v H2 π2 ⟨ob,A,c,fs,rfl,hO,hS,hl,hR,ho,hlo⟩ sH2 hle2)|refine Ye ?_|refine Y0 ?_|refine Y18 ?_|refine Y1 ?_)
 exact endsK_ret _ (.cons (.tmp rfl) .nil) fun B' a=>⟨ob,A,c,fs,rfl,a.up _ _ hO,hS.mono a.up fun _ _ h=>funcRS_mono a.up h,hl,hR,(hB1.oldH.trans ho).trans a.oldH,Nat.le_trans hB1.le hlo⟩
def regV (regs:List Int) (k:Int):Int:=regs.getD k.toNat 0
theorem argS_reg {regs:List Int} {a:ArgS} (h:0≤a.reg):argS regs a=regV regs a.reg:=by unfold argS regV;rw [if_neg (by omega)]
theorem regV_set {regs:List Int} {d v k:Int} (hk:0≤k) (h:k≠d):regV (setReg regs d v) k=regV regs k:=by
 unfold regV setReg
 split
 ·rw [List.getD_eq_getElem?_getD,List.getD_eq_getElem?_getD,List.getElem?_set,if_neg (by omega)]
 ·rfl
theorem regV_new {regs:List Int} {d v:Int} (h0:0≤d) (h1:d.toNat < regs.length):regV (setReg regs d v) d=v:=by
 unfold regV setReg
 rw [if_pos h0,List.getD_eq_getElem?_getD,List.getElem?_set,if_pos rfl,if_pos h1];rfl
theorem argS_set {regs:List Int} {d v:Int} {a:ArgS} (h:a.reg≠d):argS (setReg regs d v) a=argS regs a:=by
 by_cases hr:0≤a.reg
 ·rw [argS_reg hr,argS_reg hr,regV_set hr h]
 ·unfold argS;rw [if_pos (by omega),if_pos (by omega)]
theorem setReg_same {regs:List Int} {d:Int}:setReg regs d (regV regs d)=regs:=by
 unfold setReg regV
 split
 ·apply List.ext_getElem?
  intro i
  rw [List.getElem?_set]
  split
  ·rename_i e
   subst e
   split
   ·rename_i h;rw [List.getD_eq_getElem?_getD,List.getElem?_eq_getElem h];rfl
   ·rename_i h;rw [List.getElem?_eq_none (by omega)]
  ·rfl
 ·rfl
def ldV (s:RunS) (at_:Int) (n:Nat) (sg:Bool):Option Int :=
 if inData s at_ n then some (widenS (loadV s.data (at_ - 65536).toNat n) n sg)
 else if inStack s at_ n then some (widenS (loadV s.stack (at_ - (134217728 - (s.stack.length:Int))).toNat n) n sg)
 else none
theorem ldV_congr {s t:RunS} (h1:t.data=s.data) (h2:t.stack=s.stack) (at_:Int) (n:Nat) (sg:Bool):ldV t at_ n sg=ldV s at_ n sg:=by
 have e1:inData t at_ n=inData s at_ n:=by unfold inData;rw [h1]
 have e2:inStack t at_ n=inStack s at_ n:=by unfold inStack;rw [h2]
 unfold ldV
 by_cases d:inData s at_ n
 ·rw [if_pos d,if_pos (e1 ▸ d),h1]
 ·rw [if_neg d,if_neg (e1 ▸ d)]
  by_cases e:inStack s at_ n
  ·rw [if_pos e,if_pos (e2 ▸ e),h2]
  ·rw [if_neg e,if_neg (e2 ▸ e)]
theorem loadS_ld {s:RunS} {at_:Int} {n:Nat} {sg:Bool} (h:(loadS s at_ n sg).2.fin=0):ldV s at_ n sg=some (loadS s at_ n sg).1∧(loadS s at_ n sg).2=leakS s ⟨2,at_,0⟩:=by
 unfold loadS at h ⊢
 unfold ldV
 split
 ·exact ⟨rfl,rfl⟩
 ·rename_i h1
  rw [if_neg h1] at h
  split
  ·exact ⟨rfl,rfl⟩
  ·rename_i h2
   rw [if_neg h2] at h
   exact absurd h (stopS_fin _ (by decide))
theorem stepS_data (s:RunS):(stepS s).data=s.data∧(stepS s).stack=s.stack:=by
 unfold stepS
 split
 ·split<;>exact ⟨rfl,rfl⟩
 ·exact ⟨rfl,rfl⟩
def hasV (p:ProgS) (at_:List Int) (s:RunS) (regs:List Int) (x:InsS) (v:Int):Prop :=
 (3≤x.op∧x.op≤25∧v=valS p at_ regs x)∨(x.op=26∧ldV s (i64 (argS regs x.a+x.off)) x.size.toNat x.signed=some v)
structure LikeI (regs:List Int) (x y:InsS):Prop where
 op:y.op=x.op
 size:y.size=x.size
 signed:y.signed=x.signed
 ref:y.ref=x.ref
 off:y.off=x.off
 a:twoS x.op=false→argS regs y.a=argS regs x.a
 two:twoS x.op=true→reckonS x.op (argS regs y.a) (argS regs y.b)=reckonS x.op (argS regs x.a) (argS regs x.b)
theorem LikeI.trans {regs:List Int} {x y z:InsS} (h1:LikeI regs x y) (h2:LikeI regs y z):LikeI regs x z :=
 ⟨h2.op.trans h1.op,h2.size.trans h1.size,h2.signed.trans h1.signed,h2.ref.trans h1.ref,h2.off.trans h1.off,fun h=>(h2.a (by rw [h1.op];exact h)).trans (h1.a h),fun h=>by have:=h2.two (by rw [h1.op];exact h);rw [h1.op] at this;exact this.trans (h1.two h)⟩
theorem LikeI.symm {regs:List Int} {x y:InsS} (h:LikeI regs x y):LikeI regs y x :=
 ⟨h.op.symm,h.size.symm,h.signed.symm,h.ref.symm,h.off.symm,fun h'=>(h.a (by rw [← h.op];exact h')).symm,fun h'=>by rw [h.op];exact (h.two (by rw [← h.op];exact h')).symm⟩
theorem LikeI.val {p:ProgS} {at_:List Int} {regs:List Int} {x y:InsS} (h:LikeI regs x y):valS p at_ regs y=valS p at_ regs x:=by
 unfold valS
 rw [h.op,h.size,h.signed,h.ref,h.off]
 by_cases o2:twoS x.op=true
 ·rw [if_pos o2,if_pos o2,h.two o2,if_neg (show ¬ (x.op=1∨x.op=2) by have:=two_iff.1 o2;omega),if_neg (show ¬ (x.op=1∨x.op=2) by have:=two_iff.1 o2;omega)]
 ·rw [h.a (by simpa using o2),if_neg o2,if_neg o2]
theorem LikeI.has {p:ProgS} {at_:List Int} {s:RunS} {regs:List Int} {x y:InsS} {v:Int} (h:LikeI regs x y) (hv:hasV p at_ s regs x v):hasV p at_ s regs y v:=by
 unfold hasV at hv ⊢
 rw [h.op,h.val]
 rcases hv with h1|⟨h1,h2⟩
 ·exact .inl h1
 ·refine .inr ⟨h1,?_⟩
  rw [h.off,h.size,h.signed,h.a (by unfold twoS;simp;omega)]
  exact h2
theorem and64_comm (a b:Int):and64 a b=and64 b a:=by unfold and64;rw [BitVec.and_comm]
theorem or64_comm (a b:Int):or64 a b=or64 b a:=by unfold or64;rw [BitVec.or_comm]
theorem xor64_comm (a b:Int):xor64 a b=xor64 b a:=by unfold xor64;rw [BitVec.xor_comm]
theorem reckon_comm {op a b:Int} (h:op=3∨op=5∨op=10∨op=11∨op=12∨op=16∨op=17):reckonS op a b=reckonS op b a:=by
 unfold reckonS
 rcases h with e|e|e|e|e|e|e
 all_goals subst e
 ·simp [Int.add_comm]
 ·simp [Int.mul_comm]
 ·simp [and64_comm]
 ·simp [or64_comm]
 ·simp [xor64_comm]
 ·have h:(a == b)=(b == a):=BEq.comm
  simp [holdsS,h]
 ·have h:(a == b)=(b == a):=BEq.comm
  simp [holdsS,h]
theorem like_turn (regs:List Int) (x:InsS):LikeI regs x (turnI x):=by
 unfold turnI
 split
 ·rename_i h
  unfold turnB at h
  simp only [Bool.and_eq_true,decide_eq_true_eq] at h
  exact ⟨rfl,rfl,rfl,rfl,rfl,fun h2=>by exfalso;unfold twoS at h2;simp at h2;omega,fun _=>reckon_comm h.1⟩
 ·exact ⟨rfl,rfl,rfl,rfl,rfl,fun _=>rfl,fun _=>rfl⟩
theorem like_same {regs:List Int} {x y:InsS} (h:sameI x y=true):LikeI regs x y:=by
 unfold sameI at h
 simp only [Bool.and_eq_true,decide_eq_true_eq] at h
 obtain ⟨⟨⟨⟨⟨⟨⟨h1,h2,h3⟩,h4,h5⟩,h6⟩,h7⟩,_⟩,h8⟩,h9⟩:=h
 have ea:x.a=y.a:=by
  cases hx:x.a;cases hy:y.a
  rw [hx,hy] at h2 h3
  simp_all
 have eb:x.b=y.b:=by
  cases hx:x.b;cases hy:y.b
  rw [hx,hy] at h4 h5
  simp_all
 exact ⟨h1.symm,h6.symm,h7.symm,h8.symm,h9.symm,fun _=>by rw [ea],fun _=>by rw [ea,eb]⟩
structure KnowS (p:ProgS) (c:CseS) (at_:List Int) (s:RunS) (regs:List Int):Prop where
 cop:∀ r∈c.m.rows,∀ k a,r.2=rowM k a→0≤k∧argS regs a=regV regs k
 kn:∀ k∈c.w,0≤k.2∧hasV p at_ s regs k.1 (regV regs k.2)
theorem KnowS.zero (p:ProgS) (at_:List Int) (s:RunS) (regs:List Int):KnowS p cse0 at_ s regs:=⟨(fun r hr=>by cases hr),(fun k hk=>by cases hk)⟩
theorem of_row {m:MapC} (h:MOK m) {k:Int} {a:ArgS} (ho:ofA m k=some a):∃ r∈m.rows,r.2=rowM k a:=by
 unfold ofA at ho
 cases hf:findR k m.rows 0 with
 | none=>rw [hf] at ho;cases ho
 | some x =>
  rw [hf] at ho
  obtain ⟨_,h2,h3⟩:=findR_some hf
  have hm:=List.mem_of_getElem? h2
  obtain ⟨k',a',e,_,_⟩:=h.shape x.2 hm
  simp only [Option.map_some,Option.some.injEq,e,rowM] at ho
  subst ho
  refine ⟨x.2,hm,?_⟩
  rw [e]
  have:keyR x.2=k':=by unfold keyR;rw [e];rfl
  rw [h3,this];rfl
theorem argM_val {p:ProgS} {c:CseS} {at_:List Int} {s:RunS} {regs:List Int} (h:KnowS p c at_ s regs) (ok:MOK c.m) (a:ArgS) (but:Int):argS regs (argM c.m a but)=argS regs a:=by
 unfold argM
 split
 ·rename_i h0
  split
  ·rename_i o ho
   split
   ·obtain ⟨r,hr,e⟩:=of_row ok ho
    rw [(h.cop r hr _ _ e).2,argS_reg h0]
   ·rfl
  ·rfl
 ·rfl
theorem del_rows {m:MapC} (h:MOK m) {n:Int} {r:MRow} (hr:r∈(m.del n).rows):r∈m.rows∧keyR r≠n:=by
 unfold MapC.del at hr
 split at hr
 ·rename_i x hx
  obtain ⟨_,h2,h3⟩:=findR_some hx
  rw [Nat.sub_zero] at h2
  have hr:r∈m.rows.eraseIdx x.1:=hr
  refine ⟨(List.eraseIdx_sublist _ _).subset hr,fun e=>?_⟩
  rw [List.mem_eraseIdx_iff_getElem?] at hr
  obtain ⟨j,hne,hj⟩:=hr
  have g1:(m.rows.map keyR)[j]?=some n:=by rw [List.getElem?_map,hj];simp [e]
  have g2:(m.rows.map keyR)[x.1]?=some n:=by rw [List.getElem?_map,h2];simp [← h3]
  exact hne (nodup_idx h.nodk g1 g2)
 ·rename_i hx
  exact ⟨hr,fun e=>findR_none hx r hr e.symm⟩
theorem put_rows {m:MapC} {row:List Int} {r:MRow} (hr:r∈(m.put row).rows):r∈m.rows∨r.2=row:=by
 unfold MapC.put at hr
 split at hr
 ·rcases modify_mem hr with h|⟨b,_,rfl⟩
  ·exact .inl h
  ·exact .inr rfl
 ·rcases List.mem_append.1 hr with h|h
  ·exact .inl h
  ·rw [List.mem_singleton] at h;subst h;exact .inr rfl
theorem chg_rows {c:CseS} (h:MOK c.m) {d:Int} {r:MRow} (hr:r∈(chgC c d).m.rows):r∈c.m.rows∧∀ k a,r.2=rowM k a→k≠d∧a.reg≠d:=by
 obtain ⟨h1,h2⟩:=List.mem_filter.1 hr
 obtain ⟨h3,h4⟩:=del_rows h h1
 refine ⟨h3,fun k a e=>⟨fun e2=>h4 (by unfold keyR;rw [e];exact e2),fun e2=>?_⟩⟩
 have h2:=of_decide_eq_true h2
 rw [e] at h2
 exact h2 e2
theorem rowM_inj {k j:Int} {a b:ArgS} (h:rowM k a=rowM j b):k=j∧a=b:=by
 unfold rowM at h
 simp only [List.cons.injEq,and_true] at h
 refine ⟨h.1,?_⟩
 cases a;cases b
 simp_all
section
variable {p:ProgS} {c:CseS} {at_:List Int} {s t:RunS} {regs:List Int}
theorem hasV_set {regs':List Int} {x:InsS} {v:Int} (ha:argS regs' x.a=argS regs x.a) (hb:argS regs' x.b=argS regs x.b) (hm:(t.data=s.data∧t.stack=s.stack)∨x.op≠26) (h:hasV p at_ s regs x v):hasV p at_ t regs' x v:=by
 unfold hasV at h ⊢
 have e:valS p at_ regs' x=valS p at_ regs x:=by unfold valS;rw [ha,hb]
 rw [e,ha]
 rcases h with h|⟨h1,h2⟩
 ·exact .inl h
 ·rcases hm with ⟨m1,m2⟩|m
  ·exact .inr ⟨h1,by rw [ldV_congr m1 m2];exact h2⟩
  ·exact absurd h1 m
theorem KnowS.mem (h:KnowS p c at_ s regs) (hm:(t.data=s.data∧t.stack=s.stack)∨∀ k∈c.w,k.1.op≠26):KnowS p c at_ t regs :=
 ⟨h.cop,fun k hk=>⟨(h.kn k hk).1,hasV_set rfl rfl (hm.imp id fun f=>f k hk) (h.kn k hk).2⟩⟩
theorem KnowS.chg (h:KnowS p c at_ s regs) (ok:MOK c.m) (hm:(t.data=s.data∧t.stack=s.stack)∨∀ k∈c.w,k.1.op≠26) (d v:Int):KnowS p (chgC c d) at_ t (setReg regs d v):=by
 refine ⟨fun r hr k a e=>?_,fun k hk=>?_⟩
 ·obtain ⟨h1,h2⟩:=chg_rows ok hr
  obtain ⟨h3,h4⟩:=h2 k a e
  obtain ⟨h5,h6⟩:=h.cop r h1 k a e
  exact ⟨h5,by rw [argS_set h4,regV_set h5 h3];exact h6⟩
 ·obtain ⟨h1,h2⟩:=List.mem_filter.1 hk
  unfold keepW at h2
  simp only [Bool.and_eq_true,decide_eq_true_eq] at h2
  obtain ⟨⟨h3,h4⟩,h5⟩:=h2
  obtain ⟨h6,h7⟩:=h.kn k h1
  exact ⟨h6,by rw [regV_set h6 h3];exact hasV_set (argS_set h4) (argS_set h5) (hm.imp id fun f=>f k h1) h7⟩
theorem KnowS.put (h:KnowS p c at_ s regs) {d:Int} {a:ArgS} (h0:0≤d) (hv:argS regs a=regV regs d):KnowS p (putC c d a) at_ s regs:=by
 refine ⟨fun r hr k b e=>?_,h.kn⟩
 rcases put_rows hr with h1|h1
 ·exact h.cop r h1 k b e
 ·obtain ⟨e1,e2⟩:=rowM_inj (h1.symm.trans e)
  subst e1;subst e2
  exact ⟨h0,hv⟩
theorem KnowS.push (h:KnowS p c at_ s regs) {d:Int} {x:InsS} (h0:0≤d) (hv:hasV p at_ s regs x (regV regs d)):KnowS p ⟨c.m,c.w++[(x,d)]⟩ at_ s regs:=by
 refine ⟨h.cop,fun k hk=>?_⟩
 rcases List.mem_append.1 hk with h1|h1
 ·exact h.kn k h1
 ·rw [List.mem_singleton] at h1;subst h1;exact ⟨h0,hv⟩
theorem KnowS.forget (h:KnowS p c at_ s regs):KnowS p ⟨c.m,memW c.w⟩ at_ t regs:=by
 refine ⟨h.cop,fun k hk=>?_⟩
 obtain ⟨h1,h2⟩:=List.mem_filter.1 hk
 have h2:=of_decide_eq_true h2
 exact ⟨(h.kn k h1).1,hasV_set rfl rfl (.inr h2) (h.kn k h1).2⟩
theorem memW_no {w:List KnS}:∀ k∈memW w,k.1.op≠26:=fun _ hk=>of_decide_eq_true (List.mem_filter.1 hk).2
theorem find_mem {x:InsS}:∀ {w:List KnS},0≤findW w x→∃ k∈w,sameI k.1 x=true∧findW w x=k.2
 | [],h=>by unfold findW at h;omega
 | k::w,h=>by
  unfold findW at h ⊢
  split at h
  ·rename_i e
   rw [if_pos e]
   exact ⟨k,by simp,e,rfl⟩
  ·rename_i e
   rw [if_neg e]
   obtain ⟨j,h1,h2⟩:=find_mem h
   exact ⟨j,by simp [h1],h2⟩
theorem like_arg {x y:InsS} (h1:y.op=x.op) (h2:y.size=x.size) (h3:y.signed=x.signed) (h4:y.ref=x.ref) (h5:y.off=x.off) (ha:argS regs y.a=argS regs x.a) (hb:argS regs y.b=argS regs x.b):LikeI regs x y:=⟨h1,h2,h3,h4,h5,fun _=>ha,fun _=>by rw [ha,hb]⟩
theorem like_head (h:KnowS p c at_ s regs) (ok:MOK c.m) (x:InsS):LikeI regs x (headI c.m x):=like_arg rfl rfl rfl rfl rfl (argM_val h ok _ _) (argM_val h ok _ _)
theorem like_full (h:KnowS p c at_ s regs) (ok:MOK c.m) (x:InsS):LikeI regs x (fullI c.m x):=like_arg rfl rfl rfl rfl rfl (argM_val h ok _ _) (argM_val h ok _ _)
theorem find_has (h:KnowS p c at_ s regs) {x y:InsS} (hl:LikeI regs x y) (hf:0≤findW c.w y):hasV p at_ s regs x (regV regs (findW c.w y)):=by
 obtain ⟨k,h1,h2,h3⟩:=find_mem hf
 rw [h3]
 exact ((like_same h2).trans hl.symm).has (h.kn k h1).2
theorem found_has (h:KnowS p c at_ s regs) (ok:MOK c.m) {x:InsS} (hf:0≤foundW c x):hasV p at_ s regs x (regV regs (foundW c x)):=by
 unfold foundW at hf ⊢
 split at hf
 ·rename_i e
  rw [if_pos e]
  exact find_has h ((like_head h ok x).trans (like_turn _ _)) hf
 ·rename_i e
  rw [if_neg e]
  exact find_has h ((like_full h ok x).trans (like_turn _ _)) hf
end
end Go.Proofs.YtjhloakacicdiaaDoor
