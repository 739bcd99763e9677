/-
  What the functions that the law reaches compute,told by plain data;it holds of programs that pass the check of right form and are light.
-/
import Derived.Shelf.LaysM
import Derived.Shelf.Strconv.Itoa0
import Derived.Shelf.Strconv.Itoa1
import Derived.Shelf.Strconv.Itoa2
import Derived.Shelf.Strconv.Itoa3
import Derived.Shelf.Strconv.Itoa4
import Derived.Shelf.Strings.Builder1
import Derived.Shelf.Strings.Builder2
import Derived.Shelf.Strings.Builder2Cap
import Derived.Shelf.Strings.OnBuilder
import Derived.Test.YtjhloakacicdiaaDoorProg
import Derived.Test.YtjhloakacicdiaaDoorR1
import Derived.Test.YtjhloakacicdiaaDoorR17
import Derived.Test.YtjhloakacicdiaaDoorR4
import Derived.Test.YtjhloakacicdiaaDoorS2
set_option linter.unusedVariables false
set_option linter.unusedSimpArgs false
namespace Go.Proofs.YtjhloakacicdiaaDoor
open Go.AH
attribute [local irreducible] W RS
theorem psizeL_take {l:List FuncS} {i:Nat} {f:FuncS} (hf:l[i]?=some f):psizeL (l.take (i+1))=psizeL (l.take i)+fsizeS f.blocks:=by
 obtain ⟨q1,q2⟩:=List.getElem?_eq_some_iff.1 hf
 unfold psizeL
 rw [List.take_succ_eq_append_getElem q1,q2]
 simp
theorem psizeL_le (l:List FuncS) (i:Nat):psizeL (l.take i)≤psizeL l:=by
 have:psizeL l=psizeL (l.take i)+psizeL (l.drop i):=by
  unfold psizeL
  rw [← List.sum_append,← List.map_append,List.take_append_drop]
 omega
theorem fsizeS_take {l:List BlockS} {i:Nat} {b:BlockS} (hb:l[i]?=some b):fsizeS (l.take (i+1))=fsizeS (l.take i)+(b.ins.length+1):=by
 obtain ⟨q1,q2⟩:=List.getElem?_eq_some_iff.1 hb
 unfold fsizeS
 rw [List.take_succ_eq_append_getElem q1,q2]
 simp
theorem fsizeS_le (l:List BlockS) (i:Nat):fsizeS (l.take i)≤fsizeS l:=by
 have:fsizeS l=fsizeS (l.take i)+fsizeS (l.drop i):=by
  unfold fsizeS
  rw [← List.sum_append,← List.map_append,List.take_append_drop]
 omega
theorem fsizeS_len (l:List BlockS):l.length≤fsizeS l:=by
 induction l with
 | nil=>exact Nat.zero_le _
 | cons b l ih=>unfold fsizeS at ih ⊢;simp only [List.length_cons,List.map_cons,List.sum_cons];omega
set_option maxRecDepth 100000 in
theorem Size_tf (p:ProgS) (hlen:p.funcs.length≤1000000) (hsz:psizeL p.funcs≤1000000000) (pb:Nat) (pe:TypeId) (P1:Option Addr) (d1:Nat) (P2:Option Addr) (d2:Nat) (h:Hp) (hP0:h.m pb=some ⟨⟨progC p P1 d1 P2 d2⟩,pe⟩) (hfs:SlAt h P1 6 p.funcs (funcR h)) :
 TF Tryd.prog 59 ⟨[.pointer (some ⟨pb,0,none⟩)]⟩ h (.int .i64 (psizeL p.funcs:Int)) h:=by
 refine TF.exact (fn:=Tryd.f59) (c:=(Tryd.f59.body.getD .skip)) Tryd.func59 (by kernel_rfl) Tryd.ntmps59 (by kernel_rfl) (fun s0=>⟨Nat.le_refl _,by simp,fun i b hb=>⟨s0.dom i b hb,s0.bd i b hb⟩⟩) fun π s0=>?_
 conv=>arg 2;whnf
 have hd:=s0.dom
 have hP:=hP0
 have hPn:=hd _ _ hP
 repeat (first|((with_reducible apply RS.load1B);(iterate 3 exact rfl);exact hP;exact hPn;exact rfl)|refine Yl ?_|refine Y0 ?_|refine Y19 ?_|refine Y1 ?_)
 refine W.loopN (X:=Nat × Nat) (fun x=>[(3,.int .i64 (x.2:Int)),(11,.slice P1 p.funcs.length d1),(12,.int .i64 (p.funcs.length:Int)),(13,.int .i64 (x.1:Int))])
  (fun x B=>Old h B∧x.1≤p.funcs.length∧x.2=psizeL (p.funcs.take x.1)) (fun x=>p.funcs.length - x.1) (fun B' a=>⟨(0,0),?_,a.oldH,by simp,by simp [psizeL]⟩) ?_
 ·(repeat' (first|exact trivial|exact rfl|apply And.intro));done
 ·rintro ⟨i,n⟩ B π sB ⟨hold,hi,hn⟩
  dsimp only at hold hi hn ⊢
  by_cases hlt:i < p.funcs.length
  ·obtain ⟨f,hf⟩:∃ f,p.funcs[i]?=some f:=⟨_,List.getElem?_eq_getElem hlt⟩
   obtain ⟨gb,go,gcs,ge,rfl,hG0,hGl,B1,e1,B2,e2,B3,e3,hGv,_,hbl⟩:=hfs.get i f hf
   have hG:=hold.up hd _ _ hG0
   have hGn:=sB.dom _ _ hG
   have q1:=psizeL_take hf
   have q2:=psizeL_le p.funcs (i+1)
   have q3:=fsizeS_len f.blocks
   repeat (first|refine Y9 ?_|refine Y1j ?_|refine Y1z ?_|refine Y3 ?_|refine Y7 ?_|refine Y4 ?_|refine Yd ?_|refine Y0 ?_|refine Y24 ?_|refine Y1 ?_|refine Y5 ?_)
   refine W.loopN (X:=Nat × Nat) (fun x=>[(3,.int .i64 (x.2:Int)),(18,.slice B3 f.blocks.length e3),(19,.int .i64 (f.blocks.length:Int)),(20,.int .i64 (x.1:Int)),(11,.slice (some ⟨gb,go,none⟩) p.funcs.length d1),(12,.int .i64 (p.funcs.length:Int)),(13,.int .i64 (i:Int))])
    (fun x C=>Old h C∧x.1≤f.blocks.length∧x.2=n+fsizeS (f.blocks.take x.1)) (fun x=>f.blocks.length - x.1) (fun B' a=>⟨(0,n),?_,hold.trans a.oldH,by simp,by simp [fsizeS]⟩) ?_
   ·(repeat' (first|exact trivial|exact rfl|apply And.intro));done
   ·rintro ⟨j,m⟩ C π2 sC ⟨holdC,hj,hm⟩
    dsimp only at holdC hj hm ⊢
    by_cases hjl:j < f.blocks.length
    ·obtain ⟨b,hb⟩:∃ b,f.blocks[j]?=some b:=⟨_,List.getElem?_eq_getElem hjl⟩
     obtain ⟨xb,xo,xcs,xe,rfl,hX0,hXl,X1,y1,hXv,_⟩:=hbl.get j b hb
     have hX:=holdC.up hd _ _ hX0
     have hXn:=sC.dom _ _ hX
     have r1:=fsizeS_take hb
     have r2:=fsizeS_le f.blocks (j+1)
     repeat (first|refine Y9 ?_|refine Y4d ?_|refine Y1p ?_|refine Y3 ?_|refine Yb ?_|refine Y5c ?_|refine Y7 ?_|refine Y4 ?_|refine Yd ?_|refine Y0 ?_|refine Yg ?_|refine Y1 ?_|refine Y5 ?_)
     refine roundN_n rfl fun B' a=>⟨(j+1,m+(b.ins.length+1)),?_,⟨holdC.trans a.oldH,by omega,?_⟩,?_⟩
     ·(repeat' (first|exact trivial|exact rfl|apply And.intro));done
     ·show m+(b.ins.length+1)=n+fsizeS (f.blocks.take (j+1))
      omega
     ·show f.blocks.length - (j+1) < f.blocks.length - j
      omega
    ·have hjj:j=f.blocks.length:=by omega
     subst hjj
     rw [List.take_length] at hm
     repeat (first|refine Y28 ?_|refine Y2 ?_|refine Yb ?_|refine Y0 ?_|refine Y44 ?_|refine Y1 ?_|refine Y6 ?_|refine Yi ?_)
     refine roundN_n rfl fun B' a=>⟨(i+1,m),?_,⟨holdC.trans a.oldH,by omega,?_⟩,?_⟩
     ·(repeat' (first|exact trivial|exact rfl|apply And.intro));done
     ·show m=psizeL (p.funcs.take (i+1))
      omega
     ·show p.funcs.length - (i+1) < p.funcs.length - i
      omega
  ·have hii:i=p.funcs.length:=by omega
   subst hii
   rw [List.take_length] at hn
   repeat (first|refine Ye ?_|refine Y2 ?_|refine Y0 ?_|refine Y20 ?_|refine Y1 ?_|refine Y6 ?_|refine Yi ?_)
   exact endsK_ret _ (.cons (.tmp rfl) .nil) fun B' a=>⟨by rw [hn];rfl,fun j x hj=>a.up _ _ (hold.up hd _ _ hj)⟩
def smallsB:ByteArray:=⟨#[48,48,48,49,48,50,48,51,48,52,48,53,48,54,48,55,48,56,48,57,49,48,49,49,49,50,49,51,49,52,49,53,49,54,49,55,49,56,49,57,50,48,50,49,50,50,50,51,50,52,50,53,50,54,50,55,50,56,50,57,51,48,51,49,51,50,51,51,51,52,51,53,51,54,51,55,51,56,51,57,52,48,52,49,52,50,52,51,52,52,52,53,52,54,52,55,52,56,52,57,53,48,53,49,53,50,53,51,53,52,53,53,53,54,53,55,53,56,53,57,54,48,54,49,54,50,54,51,54,52,54,53,54,54,54,55,54,56,54,57,55,48,55,49,55,50,55,51,55,52,55,53,55,54,55,55,55,56,55,57,56,48,56,49,56,50,56,51,56,52,56,53,56,54,56,55,56,56,56,57,57,48,57,49,57,50,57,51,57,52,57,53,57,54,57,55,57,56,57,57]⟩
def smA (n:Nat):Int:=byteAt smallsB n
def eightS (d:List Int) (off i u:Nat):List Int :=
 (((((((d.set (off+(i - 1) * 1) (smA (u % 10000 % 100 * 2+1))).set (off+(i - 2) * 1) (smA (u % 10000 % 100 * 2))).set (off+(i - 3) * 1) (smA (u % 10000 / 100 * 2+1))).set (off+(i - 4) * 1) (smA (u % 10000 / 100 * 2))).set (off+(i - 5) * 1) (smA (u / 10000 % 100 * 2+1))).set (off+(i - 6) * 1) (smA (u / 10000 % 100 * 2))).set (off+(i - 7) * 1) (smA (u / 10000 / 100 * 2+1))).set (off+(i - 8) * 1) (smA (u / 10000 / 100 * 2))
def loopS:Nat→Nat→Nat→Nat→List Int→Nat × Nat × List Int
 | 0,_,i,u,d=>(i,u,d)
 | k+1,off,i,u,d=>if 8≤i then loopS k off (i - 8) (u / 100000000) (eightS d off i (u % 100000000 % 4294967296)) else (i,u,d)
def fourS (off:Nat) (x:Nat × Nat × List Int):Nat × Nat × List Int :=
 if 4≤x.1 then (x.1 - 4,x.2.1 / 10000,(((x.2.2.set (off+(x.1 - 1) * 1) (smA (x.2.1 % 10000 % 100 * 2+1))).set (off+(x.1 - 2) * 1) (smA (x.2.1 % 10000 % 100 * 2))).set (off+(x.1 - 3) * 1) (smA (x.2.1 % 10000 / 100 * 2+1))).set (off+(x.1 - 4) * 1) (smA (x.2.1 % 10000 / 100 * 2))) else x
def twoT (off:Nat) (x:Nat × Nat × List Int):Nat × Nat × List Int :=
 if 2≤x.1 then (x.1 - 2,x.2.1 / 100,(x.2.2.set (off+(x.1 - 1) * 1) (smA (x.2.1 % 100 * 2+1))).set (off+(x.1 - 2) * 1) (smA (x.2.1 % 100 * 2))) else x
def oneT (off:Nat) (x:Nat × Nat × List Int):List Int :=
 if 0 < x.1 then x.2.2.set (off+0 * 1) (IntKind.u8.wrap (IntKind.u32.wrap (48+(x.2.1:Int)))) else x.2.2
def fmtS (off N u:Nat) (d:List Int):List Int:=oneT off (twoT off (fourS off ((loopS N off N u d).1,(loopS N off N u d).2.1 % 4294967296,(loopS N off N u d).2.2)))
theorem setS_self (h:Hp) (i:Nat) (b:Blk):(h.set i b).m i=some b:=by show (if i=i then _ else _)=_;rw [if_pos rfl]
theorem eightS_length (d:List Int) (off i u:Nat):(eightS d off i u).length=d.length:=by simp [eightS]
theorem loopS_stop {k off i u:Nat} {d:List Int} (h:i < 8):loopS k off i u d=(i,u,d):=by
 cases k with
 | zero=>rfl
 | succ k=>rw [loopS,if_neg (by omega)]
theorem set_offA {h B:Hp} {a:Nat} {b:Blk} (o:OffS (fun i=>i=a) h B):OffS (fun i=>i=a) h (B.set a b) :=
 ⟨o.1,fun i hi hn=>by show (if i=a then _ else _)=_;rw [if_neg hn];exact o.2 i hi hn⟩
set_option maxRecDepth 100000 in
set_option maxHeartbeats 0 in
theorem fb10_ex (a off N cap u:Nat) (d:List Int) (e:TypeId) (hN:N≤1000) (hu:u≤18446744073709551615) (hd:off+N≤d.length) (h:Hp) (ha:h.m a=some ⟨⟨u8s d⟩,e⟩) (haw:rwM≤a) :
 EX Tryd.prog 103 [.slice (some ⟨a,off,none⟩) N cap,.int .u64 (u:Int)] h (fun v h'=>v=.tuple #[]∧h'.m a=some ⟨⟨u8s (fmtS off N u d)⟩,e⟩∧OffS (fun i=>i=a) h h'):=by
 refine EX.intro (fn:=Tryd.f103) (c:=(Tryd.f103.body.getD .skip)) Tryd.func103 (by kernel_rfl) Tryd.ntmps103 (by kernel_rfl) fun π s0=>?_
 conv=>arg 2;whnf
 repeat (first|refine Y3o ?_|refine Y0 ?_|refine Y19 ?_|refine Y1 ?_)
 refine W.loopN (X:=Nat × Nat × List Int) (fun x=>[(0,.slice (some ⟨a,off,none⟩) N cap),(1,.int .u64 (x.2.1:Int)),(4,.int .i64 (x.1:Int))])
  (fun x B=>x.1≤N∧x.2.1≤18446744073709551615∧x.2.2.length=d.length∧B.m a=some ⟨⟨u8s x.2.2⟩,e⟩∧OffS (fun i=>i=a) h B∧∃ k,x.1≤k∧loopS k off x.1 x.2.1 x.2.2=loopS N off N u d) (fun x=>x.1)
  (fun B' y=>⟨(N,u,d),?_,⟨Nat.le_refl _,hu,rfl,y.up _ _ ha,y.oldH.off,N,Nat.le_refl _,rfl⟩⟩) ?_
 ·(repeat' (first|exact trivial|exact rfl|apply And.intro));done
 rintro x B π1 sB ⟨hi,hus,hdl,hA,hoff,k,hk,hls⟩
 generalize hxi:x.1=i at *
 generalize x.2.1=us at *
 generalize x.2.2=dd at *
 have hAn:=sB.dom _ _ hA
 by_cases h8:8≤i
 ·repeat (first|((with_reducible apply (RS.quoN (b:=100000000)));(iterate 4 exact rfl);omega;(first|exact wrap32 (by omega)|exact wrap64 (by omega)))|refine Y2c ?_|refine Y1t ?_|((with_reducible apply (RS.remN (b:=100000000)));(iterate 4 exact rfl);omega)|refine Y3k ?_|refine Y2v ?_|refine Y1x ?_|refine Y1y ?_|refine Y2w ?_|refine Y2x ?_|refine Y3p ?_|refine Y3q ?_|((with_reducible apply (RS.subNat (b:=5)));(iterate 4 exact rfl);omega)|((with_reducible apply (RS.subNat (b:=6)));(iterate 4 exact rfl);omega)|((with_reducible apply (RS.subNat (b:=7)));(iterate 4 exact rfl);omega)|((with_reducible apply (RS.subNat (b:=8)));(iterate 4 exact rfl);omega)|refine Y2t ?_|refine Y2b ?_|refine Y9 ?_|refine Yv ?_|refine Ye ?_|refine Y3 ?_|refine Y0 ?_|refine Yg ?_|refine Y1 ?_|refine Y5 ?_)
  refine roundN_n rfl fun B' y=>⟨(i - 8,us / 100000000,eightS dd off i (us % 100000000 % 4294967296)),?_,⟨by show i - 8≤N;omega,by show us / 100000000≤_;omega,(eightS_length _ _ _ _).trans hdl,y.up _ _ (setS_self _ _ _),?_,?_⟩,by show i - 8 < x.1;omega⟩
  ·(repeat' (first|exact trivial|exact rfl|apply And.intro));done
  ·exact (set_offA (set_offA (set_offA (set_offA (set_offA (set_offA (set_offA (set_offA hoff)))))))).same y.oldH.off
  ·obtain ⟨k',rfl⟩:∃ k',k=k'+1:=⟨k - 1,by omega⟩
   rw [loopS,if_pos h8] at hls
   exact ⟨k',by show i - 8≤k';omega,hls⟩
 ·rw [loopS_stop (by omega)] at hls
  by_cases h4:4≤i
  ·by_cases h2:2≤i - 4
   ·by_cases h1:0 < i - 4 - 2
    ·repeat (first|refine Y2c ?_|refine Y1t ?_|refine Y3k ?_|refine Y2v ?_|refine Y1x ?_|refine Y1y ?_|refine Y2w ?_|refine Y2x ?_|refine Y3p ?_|refine Y3q ?_|refine Y2t ?_|refine Y2b ?_|refine Y48 ?_|refine Y9 ?_|refine Yv ?_|refine Y16 ?_|refine Y3 ?_|refine Y2 ?_|refine Yt ?_|refine Y0 ?_|refine Y4m ?_|refine Y1 ?_|refine Y5 ?_|refine Y6 ?_|refine Yi ?_)
     refine endsK_normal [] .nil fun B' y=>⟨rfl,y.up _ _ (Eq.trans (setS_self _ _ _) ?_),(set_offA (set_offA (set_offA (set_offA (set_offA (set_offA (set_offA (hoff)))))))).same y.oldH.off⟩
     unfold fmtS
     rw [← hls]
     simp only [fourS,twoT,oneT,if_pos h4,if_pos h2,if_pos h1]<;>rfl
    ·repeat (first|refine Y2c ?_|refine Y1t ?_|refine Y3k ?_|refine Y2v ?_|refine Y1x ?_|refine Y1y ?_|refine Y2w ?_|refine Y2x ?_|refine Y3p ?_|refine Y3q ?_|refine Y2t ?_|refine Y2b ?_|refine Y9 ?_|refine Yv ?_|refine Ye ?_|refine Y3 ?_|refine Y2 ?_|refine Y0 ?_|refine Y26 ?_|refine Y1 ?_|refine Y5 ?_|refine Y6 ?_|refine Yi ?_)
     refine endsK_normal [] .nil fun B' y=>⟨rfl,y.up _ _ (Eq.trans (setS_self _ _ _) ?_),(set_offA (set_offA (set_offA (set_offA (set_offA (set_offA (hoff))))))).same y.oldH.off⟩
     unfold fmtS
     rw [← hls]
     simp only [fourS,twoT,oneT,if_pos h4,if_pos h2,if_neg h1]<;>rfl
   ·by_cases h1:0 < i - 4
    ·repeat (first|refine Y2c ?_|refine Y1t ?_|refine Y3k ?_|refine Y2v ?_|refine Y1x ?_|refine Y1y ?_|refine Y2w ?_|refine Y2x ?_|refine Y3p ?_|refine Y3q ?_|refine Y2t ?_|refine Y2b ?_|refine Y48 ?_|refine Y9 ?_|refine Yv ?_|refine Y16 ?_|refine Y3 ?_|refine Y2 ?_|refine Yt ?_|refine Y0 ?_|refine Y26 ?_|refine Y1 ?_|refine Y5 ?_|refine Y6 ?_|refine Yi ?_)
     refine endsK_normal [] .nil fun B' y=>⟨rfl,y.up _ _ (Eq.trans (setS_self _ _ _) ?_),(set_offA (set_offA (set_offA (set_offA (set_offA (hoff)))))).same y.oldH.off⟩
     unfold fmtS
     rw [← hls]
     simp only [fourS,twoT,oneT,if_pos h4,if_neg h2,if_pos h1]<;>rfl
    ·repeat (first|refine Y2c ?_|refine Y1t ?_|refine Y3k ?_|refine Y2v ?_|refine Y1x ?_|refine Y1y ?_|refine Y2w ?_|refine Y2x ?_|refine Y3p ?_|refine Y3q ?_|refine Y2t ?_|refine Y2b ?_|refine Y9 ?_|refine Yv ?_|refine Ye ?_|refine Y3 ?_|refine Y2 ?_|refine Y0 ?_|refine Y26 ?_|refine Y1 ?_|refine Y5 ?_|refine Y6 ?_|refine Yi ?_)
     refine endsK_normal [] .nil fun B' y=>⟨rfl,y.up _ _ (Eq.trans (setS_self _ _ _) ?_),(set_offA (set_offA (set_offA (set_offA (hoff))))).same y.oldH.off⟩
     unfold fmtS
     rw [← hls]
     simp only [fourS,twoT,oneT,if_pos h4,if_neg h2,if_neg h1]<;>rfl
  ·by_cases h2:2≤i
   ·by_cases h1:0 < i - 2
    ·repeat (first|refine Y1t ?_|refine Y2v ?_|refine Y1x ?_|refine Y1y ?_|refine Y2w ?_|refine Y2x ?_|refine Y2t ?_|refine Y2b ?_|refine Y48 ?_|refine Y9 ?_|refine Yv ?_|refine Y16 ?_|refine Y3 ?_|refine Y2 ?_|refine Yt ?_|refine Y0 ?_|refine Y26 ?_|refine Y1 ?_|refine Y5 ?_|refine Y6 ?_|refine Yi ?_)
     refine endsK_normal [] .nil fun B' y=>⟨rfl,y.up _ _ (Eq.trans (setS_self _ _ _) ?_),(set_offA (set_offA (set_offA (hoff)))).same y.oldH.off⟩
     unfold fmtS
     rw [← hls]
     simp only [fourS,twoT,oneT,if_neg h4,if_pos h2,if_pos h1]<;>rfl
    ·repeat (first|refine Y1t ?_|refine Y2v ?_|refine Y1x ?_|refine Y1y ?_|refine Y2w ?_|refine Y2x ?_|refine Y2t ?_|refine Y2b ?_|refine Y9 ?_|refine Yv ?_|refine Ye ?_|refine Y3 ?_|refine Y2 ?_|refine Y0 ?_|refine Y26 ?_|refine Y1 ?_|refine Y5 ?_|refine Y6 ?_|refine Yi ?_)
     refine endsK_normal [] .nil fun B' y=>⟨rfl,y.up _ _ (Eq.trans (setS_self _ _ _) ?_),(set_offA (set_offA (hoff))).same y.oldH.off⟩
     unfold fmtS
     rw [← hls]
     simp only [fourS,twoT,oneT,if_neg h4,if_pos h2,if_neg h1]<;>rfl
   ·by_cases h1:0 < i
    ·repeat (first|refine Y2t ?_|refine Y48 ?_|refine Yv ?_|refine Y16 ?_|refine Y3 ?_|refine Y2 ?_|refine Yt ?_|refine Y0 ?_|refine Y26 ?_|refine Y1 ?_|refine Y5 ?_|refine Y6 ?_|refine Yi ?_)
     refine endsK_normal [] .nil fun B' y=>⟨rfl,y.up _ _ (Eq.trans (setS_self _ _ _) ?_),(set_offA (hoff)).same y.oldH.off⟩
     unfold fmtS
     rw [← hls]
     simp only [fourS,twoT,oneT,if_neg h4,if_neg h2,if_pos h1]<;>rfl
    ·repeat (first|refine Y2t ?_|refine Ye ?_|refine Y2 ?_|refine Y0 ?_|refine Y26 ?_|refine Y1 ?_|refine Y6 ?_|refine Yi ?_)
     refine endsK_normal [] .nil fun B' y=>⟨rfl,y.up _ _ (Eq.trans hA ?_),(hoff).same y.oldH.off⟩
     unfold fmtS
     rw [← hls]
     simp only [fourS,twoT,oneT,if_neg h4,if_neg h2,if_neg h1]<;>rfl
end Go.Proofs.YtjhloakacicdiaaDoor
namespace Go.Proofs
open Go.Shelf
def Tryd.lays169_ren:Go.Shelf.Ren:=⟨fun|169=>69|n=>n,fun|70=>118|9=>9|0=>0|72=>120|37=>28|127=>150|3=>3|5=>5|n=>n,fun|n=>n⟩
theorem Tryd.lays169:Go.Proofs.Lays.n169 Tryd.prog Tryd.lays169_ren:={
 mixed:=by kernel_rfl
 f169:=Tryd.func69.trans (congrArg some (by kernel_rfl))
 t0:=Tryd.underlying0
 a0:=Tryd.isAgg0
 z0:=Tryd.sizeOf0
 v0:=Tryd.zeroValue0
 t3:=Tryd.underlying3
 a3:=Tryd.isAgg3
 z3:=Tryd.sizeOf3
 v3:=Tryd.zeroValue3
 t9:=Tryd.underlying9
 a9:=Tryd.isAgg9
 z9:=Tryd.sizeOf9
 v9:=Tryd.zeroValue9
 t37:=Tryd.underlying28
 a37:=Tryd.isAgg28
 z37:=Tryd.sizeOf28
 v37:=Tryd.zeroValue28
 t70:=Tryd.underlying118
 a70:=Tryd.isAgg118
 z70:=Tryd.sizeOf118
 v70:=Tryd.zeroValue118
 t72:=Tryd.underlying120
 a72:=Tryd.isAgg120
 z72:=Tryd.sizeOf120
 v72:=Tryd.zeroValue120
 t127:=Tryd.underlying150
 a127:=Tryd.isAgg150
 z127:=Tryd.sizeOf150
 v127:=Tryd.zeroValue150 }
theorem Tryd.Builder_Extra_169:Builder.Extra Tryd.prog Tryd.lays169_ren:={
 sizeBuilder:=by kernel_rfl
 liesBuilder:=by kernel_rfl
 t5:=Tryd.underlying5
 a5:=Tryd.isAgg5
 z5:=Tryd.sizeOf5
 v5:=Tryd.zeroValue5
 infoByte:=by kernel_rfl
 cellsByte:=by kernel_rfl
 sizeByte:=by kernel_rfl
 neB5:=by decide }
open Go.RowKit in
theorem Tryd.Builder_String_any (B b:Nat) (l:List UInt8) (w:World) (h:Lib.IsBuilder 120 5 B b (Lib.byteCells l) w) (hBw:B≤w.heap.size) :
 Calls Tryd.prog 69 #[.pointer (some ⟨b,0,none⟩)] w fun e w'=>e=.returned (.string ⟨l.toArray⟩)∧Below B w w':=Any.Builder_String_any Tryd.lays169 Tryd.Builder_Extra_169 B b l w h hBw
def Tryd.lays241_ren:Go.Shelf.Ren:=⟨fun|241=>89|277=>106|n=>n,fun|70=>118|3=>3|0=>0|72=>120|37=>28|5=>5|n=>n,fun|n=>n⟩
open Go.RowKit in
def Tryd.lays165_ren:Go.Shelf.Ren:=⟨fun|165=>67|240=>88|241=>89|276=>105|277=>106|n=>n,fun|70=>118|3=>3|0=>0|4=>4|9=>9|20=>20|72=>120|37=>28|164=>169|5=>5|n=>n,fun|n=>n⟩
theorem Tryd.lays165:Go.Proofs.Lays.n165 Tryd.prog Tryd.lays165_ren:={
 mixed:=by kernel_rfl
 f165:=Tryd.func67.trans (congrArg some (by kernel_rfl))
 f240:=Tryd.func88.trans (congrArg some (by kernel_rfl))
 f241:=Tryd.func89.trans (congrArg some (by kernel_rfl))
 f276:=Tryd.func105.trans (congrArg some (by kernel_rfl))
 f277:=Tryd.func106.trans (congrArg some (by kernel_rfl))
 t0:=Tryd.underlying0
 a0:=Tryd.isAgg0
 z0:=Tryd.sizeOf0
 v0:=Tryd.zeroValue0
 t3:=Tryd.underlying3
 a3:=Tryd.isAgg3
 z3:=Tryd.sizeOf3
 v3:=Tryd.zeroValue3
 t4:=Tryd.underlying4
 a4:=Tryd.isAgg4
 z4:=Tryd.sizeOf4
 v4:=Tryd.zeroValue4
 t9:=Tryd.underlying9
 a9:=Tryd.isAgg9
 z9:=Tryd.sizeOf9
 v9:=Tryd.zeroValue9
 t20:=Tryd.underlying20
 a20:=Tryd.isAgg20
 z20:=Tryd.sizeOf20
 v20:=Tryd.zeroValue20
 t37:=Tryd.underlying28
 a37:=Tryd.isAgg28
 z37:=Tryd.sizeOf28
 v37:=Tryd.zeroValue28
 t70:=Tryd.underlying118
 a70:=Tryd.isAgg118
 z70:=Tryd.sizeOf118
 v70:=Tryd.zeroValue118
 t72:=Tryd.underlying120
 a72:=Tryd.isAgg120
 z72:=Tryd.sizeOf120
 v72:=Tryd.zeroValue120
 t164:=Tryd.underlying169
 a164:=Tryd.isAgg169
 z164:=Tryd.sizeOf169
 v164:=Tryd.zeroValue169 }
theorem Tryd.Builder_Extra_165:Builder.Extra Tryd.prog Tryd.lays165_ren:={
 sizeBuilder:=by kernel_rfl
 liesBuilder:=by kernel_rfl
 t5:=Tryd.underlying5
 a5:=Tryd.isAgg5
 z5:=Tryd.sizeOf5
 v5:=Tryd.zeroValue5
 infoByte:=by kernel_rfl
 cellsByte:=by kernel_rfl
 sizeByte:=by kernel_rfl
 neB5:=by decide }
open Go.RowKit in
def Tryd.lays156_ren:Go.Shelf.Ren:=⟨fun|156=>42|165=>67|166=>68|169=>69|240=>88|241=>89|276=>105|277=>106|n=>n,fun|31=>80|9=>9|3=>3|4=>4|0=>0|20=>20|72=>120|76=>123|70=>118|37=>28|75=>122|127=>150|164=>169|5=>5|80=>39|n=>n,fun|n=>n⟩
theorem Tryd.lays156:Go.Proofs.Lays.n156 Tryd.prog Tryd.lays156_ren:={
 mixed:=by kernel_rfl
 f156:=Tryd.func42.trans (congrArg some (by kernel_rfl))
 f165:=Tryd.func67.trans (congrArg some (by kernel_rfl))
 f166:=Tryd.func68.trans (congrArg some (by kernel_rfl))
 f169:=Tryd.func69.trans (congrArg some (by kernel_rfl))
 f240:=Tryd.func88.trans (congrArg some (by kernel_rfl))
 f241:=Tryd.func89.trans (congrArg some (by kernel_rfl))
 f276:=Tryd.func105.trans (congrArg some (by kernel_rfl))
 f277:=Tryd.func106.trans (congrArg some (by kernel_rfl))
 t0:=Tryd.underlying0
 a0:=Tryd.isAgg0
 z0:=Tryd.sizeOf0
 v0:=Tryd.zeroValue0
 t3:=Tryd.underlying3
 a3:=Tryd.isAgg3
 z3:=Tryd.sizeOf3
 v3:=Tryd.zeroValue3
 t4:=Tryd.underlying4
 a4:=Tryd.isAgg4
 z4:=Tryd.sizeOf4
 v4:=Tryd.zeroValue4
 t9:=Tryd.underlying9
 a9:=Tryd.isAgg9
 z9:=Tryd.sizeOf9
 v9:=Tryd.zeroValue9
 t20:=Tryd.underlying20
 a20:=Tryd.isAgg20
 z20:=Tryd.sizeOf20
 v20:=Tryd.zeroValue20
 t31:=Tryd.underlying80
 a31:=Tryd.isAgg80
 z31:=Tryd.sizeOf80
 v31:=Tryd.zeroValue80
 t37:=Tryd.underlying28
 a37:=Tryd.isAgg28
 z37:=Tryd.sizeOf28
 v37:=Tryd.zeroValue28
 t70:=Tryd.underlying118
 a70:=Tryd.isAgg118
 z70:=Tryd.sizeOf118
 v70:=Tryd.zeroValue118
 t72:=Tryd.underlying120
 a72:=Tryd.isAgg120
 z72:=Tryd.sizeOf120
 v72:=Tryd.zeroValue120
 t75:=Tryd.underlying122
 a75:=Tryd.isAgg122
 z75:=Tryd.sizeOf122
 v75:=Tryd.zeroValue122
 t76:=Tryd.underlying123
 a76:=Tryd.isAgg123
 z76:=Tryd.sizeOf123
 v76:=Tryd.zeroValue123
 t127:=Tryd.underlying150
 a127:=Tryd.isAgg150
 z127:=Tryd.sizeOf150
 v127:=Tryd.zeroValue150
 t164:=Tryd.underlying169
 a164:=Tryd.isAgg169
 z164:=Tryd.sizeOf169
 v164:=Tryd.zeroValue169 }
theorem Tryd.Builder_Extra_156:Builder.Extra Tryd.prog Tryd.lays156_ren:={
 sizeBuilder:=by kernel_rfl
 liesBuilder:=by kernel_rfl
 t5:=Tryd.underlying5
 a5:=Tryd.isAgg5
 z5:=Tryd.sizeOf5
 v5:=Tryd.zeroValue5
 infoByte:=by kernel_rfl
 cellsByte:=by kernel_rfl
 sizeByte:=by kernel_rfl
 neB5:=by decide }
open Go.RowKit in
theorem Tryd.strings_Join_none (a:Option Addr) (c:Nat) (sep:ByteArray) (w:World) :
 Calls Tryd.prog 42 #[.slice a 0 c,.string sep] w fun e w'=>e=.returned (.string ⟨#[]⟩)∧w'=w:=Any.strings_Join_none Tryd.lays156 Tryd.Builder_Extra_156 a c sep w
open Go.RowKit in
theorem Tryd.strings_Join (bk o c:Nat) (xs:List ByteArray) (sep:ByteArray) (w:World) (hcells:∀ (j:Nat) x,xs[j]?=some x→w.cell? ⟨bk,o+j,none⟩=some (.string x)) (hbk:bk < w.heap.size) (hN:xs.length≤140737488355328) (hcap:xs.length≤c) (hlen:(Lib.join (xs.map (·.data.toList)) sep.data.toList).length≤140737488355328) :
 Calls Tryd.prog 42 #[.slice (some ⟨bk,o,none⟩) xs.length c,.string sep] w fun e w'=>e=.returned (.string ⟨(Lib.join (xs.map (·.data.toList)) sep.data.toList).toArray⟩)∧Below w.heap.size w w':=Any.strings_Join Tryd.lays156 Tryd.Builder_Extra_156 bk o c xs sep w hcells hbk hN hcap hlen
open Go.RowKit in
theorem Tryd.Builder_Grow_fresh_cap (B b n:Nat) (w:World) (hB:B≤b) (hbk:w.heap[b]?=some (.cells #[.pointer none,.slice none 0 0] 120 (0,0))) (hBw:B≤w.heap.size) (hn:n≤281474976710656) :
 Calls Tryd.prog 67 #[.pointer (some ⟨b,0,none⟩),.int .i64 n] w fun e w'=>e=.returned (.tuple #[])∧(Lib.BuilderAt 120 5 B b (.pointer (some ⟨b,0,none⟩)) [] w'∧Below B w w')∧∃ p cap,w'.cell? ⟨b,1,none⟩=some (.slice p 0 cap)∧n≤cap:=Any.Builder_Grow_fresh_cap Tryd.lays165 Tryd.Builder_Extra_165 B b n w hB hbk hBw hn
def Tryd.lays129_ren:Go.Shelf.Ren:=⟨fun|129=>113|n=>n,fun|53=>90|3=>3|4=>4|46=>180|5=>5|9=>9|n=>n,fun|n=>n⟩
theorem Tryd.lays129:Go.Proofs.Lays.n129 Tryd.prog Tryd.lays129_ren:={
 mixed:=by kernel_rfl
 f129:=Tryd.func113.trans (congrArg some (by kernel_rfl))
 t3:=Tryd.underlying3
 a3:=Tryd.isAgg3
 z3:=Tryd.sizeOf3
 v3:=Tryd.zeroValue3
 t4:=Tryd.underlying4
 a4:=Tryd.isAgg4
 z4:=Tryd.sizeOf4
 v4:=Tryd.zeroValue4
 t5:=Tryd.underlying5
 a5:=Tryd.isAgg5
 z5:=Tryd.sizeOf5
 v5:=Tryd.zeroValue5
 t9:=Tryd.underlying9
 a9:=Tryd.isAgg9
 z9:=Tryd.sizeOf9
 v9:=Tryd.zeroValue9
 t46:=Tryd.underlying180
 a46:=Tryd.isAgg180
 z46:=Tryd.sizeOf180
 v46:=Tryd.zeroValue180
 t53:=Tryd.underlying90
 a53:=Tryd.isAgg90
 z53:=Tryd.sizeOf90
 v53:=Tryd.zeroValue90 }
theorem Tryd.bits_Len64 (x:Int) (w:World) (h0:0≤x) (h1:x≤18446744073709551615) :
 Calls Tryd.prog 113 #[.int .u64 x] w fun e w'=>e=.returned (.int .i64 (Lib.bitLen x.toNat))∧w'=w:=Any.bits_Len64 Tryd.lays129 x w h0 h1
def Tryd.lays317_ren:Go.Shelf.Ren:=⟨fun|317=>112|n=>n,fun|3=>3|46=>180|n=>n,fun|n=>n⟩
theorem Tryd.lays317:Go.Proofs.Lays.n317 Tryd.prog Tryd.lays317_ren:={
 mixed:=by kernel_rfl
 f317:=Tryd.func112.trans (congrArg some (by kernel_rfl))
 t3:=Tryd.underlying3
 a3:=Tryd.isAgg3
 z3:=Tryd.sizeOf3
 v3:=Tryd.zeroValue3
 t46:=Tryd.underlying180
 a46:=Tryd.isAgg180
 z46:=Tryd.sizeOf180
 v46:=Tryd.zeroValue180 }
open Go.Lib in
theorem Tryd.internal_strconv_log10Pow2 (x:Nat) (h:x≤64) (w:World) :
 Calls Tryd.prog 112 #[.int .i64 x] w fun e w'=>e=.returned (.int .i64 (Lib.l10 x))∧w'=w:=Any.internal_strconv_log10Pow2 Tryd.lays317 x h w
def Tryd.lays318_ren:Go.Shelf.Ren:=⟨fun|318=>114|n=>n,fun|3=>3|4=>4|n=>n,fun|n=>n⟩
theorem Tryd.lays318:Go.Proofs.Lays.n318 Tryd.prog Tryd.lays318_ren:={
 mixed:=by kernel_rfl
 f318:=Tryd.func114.trans (congrArg some (by kernel_rfl))
 t3:=Tryd.underlying3
 a3:=Tryd.isAgg3
 z3:=Tryd.sizeOf3
 v3:=Tryd.zeroValue3
 t4:=Tryd.underlying4
 a4:=Tryd.isAgg4
 z4:=Tryd.sizeOf4
 v4:=Tryd.zeroValue4 }
open Go.Lib in
theorem Tryd.internal_strconv_bool2_int (b:Bool) (w:World) :
 Calls Tryd.prog 114 #[.bool b] w fun e w'=>e=.returned (.int .i64 (if b then 1 else 0))∧w'=w:=Any.internal_strconv_bool2_int Tryd.lays318 b w
def Tryd.lays283_ren:Go.Shelf.Ren:=⟨fun|283=>101|n=>n,fun|3=>3|9=>9|4=>4|n=>n,fun|n=>n⟩
theorem Tryd.lays283:Go.Proofs.Lays.n283 Tryd.prog Tryd.lays283_ren:={
 mixed:=by kernel_rfl
 f283:=Tryd.func101.trans (congrArg some (by kernel_rfl))
 t3:=Tryd.underlying3
 a3:=Tryd.isAgg3
 z3:=Tryd.sizeOf3
 v3:=Tryd.zeroValue3
 t4:=Tryd.underlying4
 a4:=Tryd.isAgg4
 z4:=Tryd.sizeOf4
 v4:=Tryd.zeroValue4
 t9:=Tryd.underlying9
 a9:=Tryd.isAgg9
 z9:=Tryd.sizeOf9
 v9:=Tryd.zeroValue9 }
open Go.Lib in
theorem Tryd.internal_strconv_small (i:Nat) (h:i < 100) (w:World) :
 Calls Tryd.prog 101 #[.int .i64 i] w fun e w'=>e=.returned (.string ⟨(Lib.decDigits i).toArray⟩)∧w'=w:=Any.internal_strconv_small Tryd.lays283 i h w
def Tryd.laysM284_ren:Go.Shelf.Ren:=⟨fun|284=>102|129=>113|317=>112|318=>114|n=>n,fun|53=>90|3=>3|212=>177|0=>0|4=>4|46=>180|5=>5|9=>9|n=>n,fun|17=>1|n=>n⟩
open Go.Lib in
def Tryd.lays285_ren:Go.Shelf.Ren:=⟨fun|285=>103|n=>n,fun|37=>28|53=>90|3=>3|4=>4|51=>178|9=>9|5=>5|0=>0|n=>n,fun|n=>n⟩
open Go.RowKit Go.Sort Go.Lib in
def Tryd.laysM246_ren:Go.Shelf.Ren:=⟨fun|246=>87|283=>101|284=>102|285=>103|286=>104|129=>113|317=>112|318=>114|319=>115|320=>116|337=>118|338=>119|n=>n,fun|2=>2|3=>3|9=>9|4=>4|171=>164|0=>0|53=>90|37=>28|5=>5|173=>167|212=>177|51=>178|20=>20|213=>179|46=>180|232=>184|233=>185|n=>n,fun|17=>1|18=>3|19=>4|n=>n⟩
open Go.RowKit Go.Sort Go.Lib in
def Tryd.lays246_ren:Go.Shelf.Ren:=⟨fun|246=>87|283=>101|284=>102|285=>103|286=>104|129=>113|317=>112|318=>114|319=>115|320=>116|337=>118|338=>119|n=>n,fun|2=>2|3=>3|9=>9|4=>4|171=>164|0=>0|53=>90|37=>28|5=>5|173=>167|212=>177|51=>178|20=>20|213=>179|46=>180|232=>184|233=>185|n=>n,fun|17=>1|18=>3|19=>4|n=>n⟩
open Go.RowKit Go.Sort Go.Lib in
def Tryd.laysM243_ren:Go.Shelf.Ren:=⟨fun|243=>65|246=>87|283=>101|284=>102|285=>103|286=>104|129=>113|317=>112|318=>114|319=>115|320=>116|337=>118|338=>119|n=>n,fun|3=>3|9=>9|2=>2|4=>4|171=>164|0=>0|53=>90|37=>28|5=>5|173=>167|212=>177|51=>178|20=>20|213=>179|46=>180|232=>184|233=>185|n=>n,fun|17=>1|18=>3|19=>4|n=>n⟩
open Go.RowKit Go.Sort Go.Lib in
def Tryd.lays243_ren:Go.Shelf.Ren:=⟨fun|243=>65|246=>87|283=>101|284=>102|285=>103|286=>104|129=>113|317=>112|318=>114|319=>115|320=>116|337=>118|338=>119|n=>n,fun|3=>3|9=>9|2=>2|4=>4|171=>164|0=>0|53=>90|37=>28|5=>5|173=>167|212=>177|51=>178|20=>20|213=>179|46=>180|232=>184|233=>185|n=>n,fun|17=>1|18=>3|19=>4|n=>n⟩
open Go.RowKit Go.Sort Go.Lib in
def Tryd.laysM171_ren:Go.Shelf.Ren:=⟨fun|171=>39|243=>65|246=>87|283=>101|284=>102|285=>103|286=>104|129=>113|317=>112|318=>114|319=>115|320=>116|337=>118|338=>119|n=>n,fun|3=>3|9=>9|2=>2|4=>4|171=>164|0=>0|53=>90|37=>28|5=>5|173=>167|212=>177|51=>178|20=>20|213=>179|46=>180|232=>184|233=>185|n=>n,fun|17=>1|18=>3|19=>4|n=>n⟩
open Go.RowKit Go.Sort Go.Lib in
def Tryd.lays171_ren:Go.Shelf.Ren:=⟨fun|171=>39|243=>65|246=>87|283=>101|284=>102|285=>103|286=>104|129=>113|317=>112|318=>114|319=>115|320=>116|337=>118|338=>119|n=>n,fun|3=>3|9=>9|2=>2|4=>4|171=>164|0=>0|53=>90|37=>28|5=>5|173=>167|212=>177|51=>178|20=>20|213=>179|46=>180|232=>184|233=>185|n=>n,fun|17=>1|18=>3|19=>4|n=>n⟩
open Go.RowKit Go.Sort Go.Lib in
def Tryd.laysM173_ren:Go.Shelf.Ren:=⟨fun|173=>66|246=>87|283=>101|284=>102|285=>103|286=>104|129=>113|317=>112|318=>114|319=>115|320=>116|337=>118|338=>119|n=>n,fun|2=>2|3=>3|9=>9|4=>4|171=>164|0=>0|53=>90|37=>28|5=>5|173=>167|212=>177|51=>178|20=>20|213=>179|46=>180|232=>184|233=>185|n=>n,fun|17=>1|18=>3|19=>4|n=>n⟩
open Go.RowKit Go.Sort Go.Lib in
def Tryd.lays173_ren:Go.Shelf.Ren:=⟨fun|173=>66|246=>87|283=>101|284=>102|285=>103|286=>104|129=>113|317=>112|318=>114|319=>115|320=>116|337=>118|338=>119|n=>n,fun|2=>2|3=>3|9=>9|4=>4|171=>164|0=>0|53=>90|37=>28|5=>5|173=>167|212=>177|51=>178|20=>20|213=>179|46=>180|232=>184|233=>185|n=>n,fun|17=>1|18=>3|19=>4|n=>n⟩
end Go.Proofs
namespace Go.Proofs.YtjhloakacicdiaaDoor
open Go.AH
attribute [local irreducible] W RS
theorem old_one {h B H:Hp} {a:Nat} (o:Old h B) (ho:OffS (fun i=>i=a) B H) (ha:h.n≤a):Old h H :=
 ⟨Nat.le_trans o.1 ho.1,fun i hi=>by rw [ho.2 i (Nat.lt_of_lt_of_le hi o.1) (fun e=>by omega),o.2 i hi]⟩
theorem fourS_length (off:Nat) (x:Nat × Nat × List Int):(fourS off x).2.2.length=x.2.2.length:=by unfold fourS;split<;>simp
theorem twoT_length (off:Nat) (x:Nat × Nat × List Int):(twoT off x).2.2.length=x.2.2.length:=by unfold twoT;split<;>simp
theorem oneT_length (off:Nat) (x:Nat × Nat × List Int):(oneT off x).length=x.2.2.length:=by unfold oneT;split<;>simp
theorem loopS_length:∀ (k off i u:Nat) (d:List Int),(loopS k off i u d).2.2.length=d.length
 | 0,_,_,_,_=>rfl
 | k+1,off,i,u,d=>by
  rw [loopS]
  split
  ·rw [loopS_length k,eightS_length]
  ·rfl
theorem fmtS_length (off N u:Nat) (d:List Int):(fmtS off N u d).length=d.length:=by
 unfold fmtS
 rw [oneT_length,twoT_length,fourS_length,loopS_length]
theorem len64_tf (x:Nat) (hx:x≤18446744073709551615) (h:Hp):TF Tryd.prog 113 ⟨[.int .u64 (x:Int)]⟩ h (.int .i64 ((Lib.bitLen x:Nat):Int)) h :=
 TF.of_same (by simp) (by simp) fun _ W _=>by
  have:=Tryd.bits_Len64 (x:Int) W (by omega) (by omega)
  simpa using this
theorem l10_tf (x:Nat) (hx:x≤64) (h:Hp):TF Tryd.prog 112 ⟨[.int .i64 (x:Int)]⟩ h (.int .i64 ((Lib.l10 x:Nat):Int)) h :=
 TF.of_same (by simp) (by simp) fun _ W _=>Tryd.internal_strconv_log10Pow2 x hx W
theorem bool2_tf (b:Bool) (h:Hp):TF Tryd.prog 114 ⟨[.bool b]⟩ h (.int .i64 (if b then 1 else 0)) h :=
 TF.of_same (by simp) (by simp) fun _ W _=>Tryd.internal_strconv_bool2_int b W
theorem smallN_tf (i:Nat) (hi:i < 100) (h:Hp):TF Tryd.prog 101 ⟨[.int .i64 (i:Int)]⟩ h (.string ⟨(Lib.decDigits i).toArray⟩) h :=
 TF.of_same (by simp) (by simp) fun _ W _=>Tryd.internal_strconv_small i hi W
def GT (h:Hp):Prop:=∃ e,h.m 1=some ⟨⟨Lib.pow10Tab.map (Value.int .u64)⟩,e⟩
theorem GT.up {h H:Hp} (g:GT h) (hu:∀ i b,h.m i=some b→H.m i=some b):GT H:=by
 obtain ⟨e,he⟩:=g
 exact ⟨e,hu _ _ he⟩
theorem pow_at {m:Nat} (hm:m < 20):(Lib.pow10Tab.map (Value.int .u64))[0+m * 1]?=some (.int .u64 ((10 ^ m:Nat):Int)):=by
 simp only [Lib.pow10Tab,Nat.zero_add,Nat.mul_one,List.getElem?_map,List.getElem?_range hm,Option.map_some]
def digS (u:Nat):Nat:=Lib.l10 (Lib.bitLen u)+(if 10 ^ Lib.l10 (Lib.bitLen u)≤u then 1 else 0)
theorem bitLen_64 {u:Nat} (hu:u≤18446744073709551615):Lib.bitLen u≤64:=Lib.bitLen_le u 64 (Nat.le_refl _) (by omega)
theorem l10_19 {x:Nat} (hx:x≤64):Lib.l10 x≤19:=by unfold Lib.l10;omega
theorem digS_le {u:Nat} (hu:u≤18446744073709551615):digS u≤20:=by
 have:=l10_19 (bitLen_64 hu)
 unfold digS;split<;>omega
theorem numDigits_tf (u:Nat) (hu:u≤18446744073709551615) (h:Hp) (hg:GT h):TF Tryd.prog 102 ⟨[.int .u64 (u:Int)]⟩ h (.int .i64 ((digS u:Nat):Int)) h:=by
 obtain ⟨e,hG⟩:=hg
 refine TF.dom fun hd=>?_
 have hGn:=hd _ _ hG
 have h19:=l10_19 (bitLen_64 hu)
 have hat:=pow_at (m:=Lib.l10 (Lib.bitLen u)) (by omega)
 unfold digS
 generalize 10 ^ Lib.l10 (Lib.bitLen u)=t at *
 refine TF.exact (fn:=Tryd.f102) (c:=(Tryd.f102.body.getD .skip)) Tryd.func102 (by kernel_rfl) Tryd.ntmps102 (by kernel_rfl) (fun s0=>⟨Nat.le_refl _,by simp,fun i b hb=>⟨s0.dom i b hb,s0.bd i b hb⟩⟩) fun π s0=>?_
 conv=>arg 2;whnf
 by_cases hc:t≤u
 ·repeat (first|refine Y5b ?_|refine Y52 ?_|((with_reducible apply (RS.callA (g0:=114)));(iterate 3 exact rfl);exact fun B' _=>bool2_tf _ B')|((with_reducible apply RS.indexAddrArr);(iterate 4 exact rfl);omega)|((with_reducible apply RS.load1B);(iterate 3 exact rfl);exact hG;exact hGn;exact hat)|refine Ye ?_|refine Y3 ?_|refine Yb ?_|refine Y0 ?_|refine Y18 ?_|refine Y1 ?_)
  exact endsK_ret _ (.cons (.tmp rfl) .nil) fun B' y=>⟨by rw [if_pos hc];rfl,fun j x hj=>y.up _ _ hj⟩
 ·repeat (first|refine Y5b ?_|refine Y52 ?_|((with_reducible apply (RS.callA (g0:=114)));(iterate 3 exact rfl);exact fun B' _=>bool2_tf _ B')|((with_reducible apply RS.indexAddrArr);(iterate 4 exact rfl);omega)|((with_reducible apply RS.load1B);(iterate 3 exact rfl);exact hG;exact hGn;exact hat)|refine Ye ?_|refine Y2 ?_|refine Yu ?_|refine Y0 ?_|refine Y18 ?_|refine Y1 ?_)
  exact endsK_ret _ (.cons (.tmp rfl) .nil) fun B' y=>⟨by rw [if_neg hc];rfl,fun j x hj=>y.up _ _ hj⟩
end Go.Proofs.YtjhloakacicdiaaDoor
