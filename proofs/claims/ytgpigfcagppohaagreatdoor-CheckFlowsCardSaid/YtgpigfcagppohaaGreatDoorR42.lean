/-
  What the functions that the law reaches compute,told by plain data;it holds of programs that pass the check of right form and are light.
-/
import Derived.Carry
import Derived.LaidMore
import Derived.Lib.LaidTab
import Derived.Lib.Space
import Derived.OpenShut
import Derived.ProofKit
import Derived.Shelf.Vars
import Derived.Stop.Joined
import Derived.Test.YtgpigfcagppohaaGreatDoorCards
import Derived.Test.YtgpigfcagppohaaGreatDoorChecked
import Derived.Test.YtgpigfcagppohaaGreatDoorR34
import Derived.Test.YtgpigfcagppohaaGreatDoorR37
import Derived.Test.YtgpigfcagppohaaGreatDoorR41
import Derived.Test.YtgpigfcagppohaaGreatDoorS2
import Derived.Test.YtgpigfcagppohaaGreatDoorS3
import Derived.Test.YtgpigfcagppohaaGreatDoorTie
set_option linter.unusedVariables false
set_option linter.unusedSimpArgs false
namespace Go.Proofs.YtgpigfcagppohaaGreatDoor
open Go.AH
attribute [local irreducible] W RS WR
def SgAt (h:Hp) (A:Option Addr) (l:List Int):Prop:=l=[]∨∃ b o cs e,A=some ⟨b,o,none⟩∧h.m b=some ⟨⟨cs⟩,e⟩∧∀ (i:Nat) (v:Int),l[i]?=some v→cs[o+i * 1]?=some (.int .i64 v)
def md11 (k:Int):Nat:=((k.tmod 11+11).tmod 11).toNat
theorem md11_fit (k:Int):md11 k < 11∧(k.tmod 11+11).tmod 11=(md11 k:Int)∧-9223372036854775808≤k.tmod 11+11∧k.tmod 11+11≤9223372036854775807:=by
 obtain ⟨i,hi,he,h1,h2⟩:=mod_fit (n:=k) (m:=11) (by decide) (by decide)
 have he:(k.tmod 11+11).tmod 11=(i:Int):=he
 have e:md11 k=i:=by unfold md11;rw [he];rfl
 rw [e]
 exact ⟨hi,he,h1,h2⟩
def flV (e:List UInt8):List Value:=[.string ⟨⟨([40]++e)++[32,43,32,49,41]⟩⟩,.string ⟨⟨([45,40]++e)++[41]⟩⟩,.string ⟨⟨[33]++e⟩⟩,.string ⟨⟨([40,120,32,63,32]++e)++[32,58,32,50,41]⟩⟩,.string ⟨⟨[40,99,104,97,114,41,32]++e⟩⟩,.string ⟨⟨([116,91]++e)++[32,38,32,51,93]⟩⟩,.string ⟨⟨([40]++e)++[32,38,38,32,120,41]⟩⟩,.string ⟨⟨([40]++e)++[32,61,61,32,51,41]⟩⟩,.string ⟨⟨([40]++e)++[32,60,60,32,120,41]⟩⟩,.string ⟨⟨([40,120,32,124,32]++e)++[41]⟩⟩,.string ⟨⟨([42,40,116,32,43,32,40]++e)++[32,38,32,51,41,41]⟩⟩]
theorem fl_at {j:Nat} (h:j < 11) (e:List UInt8):(flV e)[0+j * 1]?=some (.string ⟨⟨flPre j++(e++flPost j)⟩⟩):=by
 rcases o_cases h with rfl|rfl|rfl|rfl|rfl|rfl|rfl|rfl|rfl|rfl|rfl
 ·rfl
 ·rfl
 ·show some (Value.string ⟨⟨[33]++e⟩⟩)=some (.string ⟨⟨[33]++(e++[])⟩⟩)
  rw [List.append_nil]
 ·rfl
 ·show some (Value.string ⟨⟨[40,99,104,97,114,41,32]++e⟩⟩)=some (.string ⟨⟨[40,99,104,97,114,41,32]++(e++[])⟩⟩)
  rw [List.append_nil]
 ·rfl
 ·rfl
 ·rfl
 ·rfl
 ·rfl
 ·rfl
theorem flow_ck {q k:Nat} {l:List Nat} (hq:q < 4) (hl:∀ o∈l,o < 11) (h8:l.length≤8) (hk:(if q=1 then 0 else 15)=k):ckindT (((flH++flA q)++flE l)++flZ q)=some k∧(((flH++flA q)++flE l)++flZ q).length≤16384:=by
 have e:((flH++flA q)++flE l)++flZ q=flowL q l:=by unfold flowL;simp only [List.append_assoc]
 rw [e,flows_law hq hl h8,hk]
 exact ⟨rfl,by have:=(flow_len hq hl h8).1;omega⟩
set_option maxHeartbeats 4000000 in
set_option maxRecDepth 100000 in
theorem flows_tf (l:List Int) (A:Option Addr) (cap:Nat) (h:Hp) (hg:G0 h) (hs:SgAt h A l):TF Tryz.prog 3 ⟨[.slice A l.length cap]⟩ h (.bool true) h:=by
 refine TF.exact (fn:=Tryz.f3) (c:=(Tryz.f3.body.getD .skip)) Tryz.func3 (by kernel_rfl) Tryz.ntmps3 (by kernel_rfl) (fun s0=>⟨Nat.le_refl _,by simp,fun i b hb=>⟨s0.dom i b hb,fun u hu=>s0.bd i b hb u hu⟩⟩) fun π s0=>?_
 conv=>arg 2;whnf
 ((with_reducible apply W.seq);repeat (first|refine Yw ?_|refine Y0 ?_|refine Y1 ?_|refine Ym ?_))
 ((with_reducible apply W.seq);repeat (fail))
 ((with_reducible apply W.seq);repeat (first|((with_reducible apply (RS.callA (g0:=7)));(iterate 3 exact rfl);exact fun B' hB'=>fit5_tf B' (hg.up hB'.up))|((with_reducible apply RS.not);iterate 3 exact rfl)|refine Y0 ?_|refine Y1 ?_|refine Y1h ?_|refine Y3 ?_))
 by_cases h8:8 < l.length
 ·repeat (first|((with_reducible first|apply RS.move|apply RS.assign|apply RS.lenSl);iterate 3 exact rfl)|refine Y6 ?_|refine Y0 ?_|refine Y13 ?_|refine Y1 ?_|refine Y5 ?_)
  exact endsK_ret _ (.cons (.tmp rfl) .nil) fun B' a=>⟨rfl,fun i c hi=>a.up _ _ hi⟩
 ·((with_reducible apply W.seq);repeat (fail))
  ((with_reducible apply W.seq);repeat (first|refine Y6d ?_|refine Y4 ?_|refine Y0 ?_|refine Y1 ?_|refine Y1h ?_|refine Y3 ?_))
  ((with_reducible apply W.seq);repeat (first|refine Yw ?_|refine Y0 ?_|refine Y1 ?_|refine Ym ?_))
  ((with_reducible apply W.seq);repeat (fail))
  ((with_reducible apply W.seq);repeat (first|refine Y6d ?_|refine Y0 ?_|refine Y1 ?_|refine Y24 ?_))
  have hjs:∀ j∈(l.map md11).reverse,j < 11:=fun j hj=>by
   obtain ⟨k,_,rfl⟩:=List.mem_map.1 (List.mem_reverse.1 hj)
   exact (md11_fit k).1
  have hjl:(l.map md11).reverse.length≤8:=by rw [List.length_reverse,List.length_map];omega
  have hsd:∀ b c,h.m b=some c→b < h.n:=s0.dom
  refine W.loopN (X:=Nat) (fun i=>[(3,.string ⟨⟨flE ((l.map md11).take i).reverse⟩⟩),(20,.slice A l.length cap),(21,.int .i64 (l.length:Int)),(22,.int .i64 (i:Int))]) (fun i B=>(∀ b c,h.m b=some c→B.m b=some c)∧i≤l.length) (fun i=>l.length - i)
   (fun B' a=>⟨0,?_,a.up,Nat.zero_le _⟩) ?_
  ·(repeat' (first|exact trivial|exact rfl|apply And.intro));done
  rintro i B π1 sB ⟨hup,hi⟩
  dsimp only
  by_cases hlt:i < l.length
  ·obtain ⟨k,hk⟩:∃ k,l[i]?=some k:=⟨_,List.getElem?_eq_getElem hlt⟩
   rcases hs with rfl|⟨b0,o0,cs0,el0,rfl,hm0,hc0⟩
   ·simp at hlt
   obtain ⟨hj11,hj,hjb⟩:=md11_fit k
   have hck:=hc0 i k hk
   have hm0:=hup _ _ hm0
   have hn0:=sB.dom _ _ hm0
   have hsn:flE ((l.map md11).take (i+1)).reverse=flPre (md11 k)++(flE ((l.map md11).take i).reverse++flPost (md11 k)):=by
    rw [List.take_add_one,List.getElem?_map,hk]
    simp only [Option.map_some,Option.toList_some,List.reverse_append,List.reverse_cons,List.reverse_nil,List.nil_append,List.cons_append]
    rfl
   have hsl:(flE ((l.map md11).take i).reverse).length≤200:=by
    have:=(fl_len ((l.map md11).take i).reverse fun o ho=>hjs o (by
     rw [List.mem_reverse] at ho ⊢
     exact List.mem_of_mem_take ho)).1
    rw [List.length_reverse,List.length_take] at this
    omega
   have hsv:=fl_at hj11 (flE ((l.map md11).take i).reverse)
   generalize hje:md11 k=j at *
   generalize hee:flE ((l.map md11).take i).reverse=e at *
   repeat (first|((with_reducible apply RS.indexAddrS);(iterate 5 exact rfl);(first|exact hlt|exact hj11))|((with_reducible apply RS.load1B);(iterate 3 exact rfl);exact hm0;exact hn0;exact hck)|refine Yi ?_|((with_reducible apply RS.remV);(iterate 4 exact rfl);first|decide;exact hj|decide;exact rfl)|((with_reducible apply RS.binFit);(iterate 5 exact rfl);exact hjb)|((with_reducible apply RS.load1At);(iterate 5 exact rfl);exact hsv)|((with_reducible apply RS.catL);(iterate 4 exact rfl);(simp only [List.length_append,List.length_cons,List.length_nil];omega))|refine Y7 ?_|refine Y6 ?_|refine Yp ?_|refine Y0 ?_|refine Yt ?_|refine Y1 ?_|refine Y5 ?_)
   refine roundN_n rfl fun B' a=>⟨i+1,⟨?_,rfl,rfl,rfl,trivial⟩,⟨fun b c hb=>a.up _ _ (hup b c hb),hlt⟩,by omega⟩
   show some (Value.string ⟨⟨flPre j++(e++flPost j)⟩⟩)=some (Value.string ⟨⟨flE ((l.map md11).take (i+1)).reverse⟩⟩)
   rw [hsn]
  ·obtain rfl:i=l.length:=by omega
   have hfull:(l.map md11).take l.length=l.map md11:=List.take_of_length_le (by simp)
   rw [hfull]
   have q0:=flow_ck (q:=0) (k:=15) (by decide) hjs hjl rfl
   have q1:=flow_ck (q:=1) (k:=0) (by decide) hjs hjl rfl
   have q2:=flow_ck (q:=2) (k:=15) (by decide) hjs hjl rfl
   have q3:=flow_ck (q:=3) (k:=15) (by decide) hjs hjl rfl
   have hsl:(flE (l.map md11).reverse).length≤200:=by
    have:=(fl_len (l.map md11).reverse hjs).1
    omega
   generalize hee:flE (l.map md11).reverse=e at *
   ((with_reducible apply W.seq);repeat (first|refine Y4 ?_|refine Y0 ?_|refine Y1 ?_|refine Ym ?_))
   ((with_reducible apply W.seq);repeat (first|(with_reducible first|apply W.exit|apply thenK_n|apply thenK_e|apply roundN_e)|refine Y3 ?_|refine Yn ?_))
   ((with_reducible apply W.seq);repeat (first|refine Yw ?_|refine Y0 ?_|refine Y1 ?_|refine Ym ?_))
   ((with_reducible apply W.seq);repeat (first|refine Y2e ?_|((with_reducible apply (RS.callEx (g0:=8)));(iterate 3 exact rfl);intro B1 hB1;refine ⟨_,check_kind q0.2 q0.1 (hg.up fun b c hb=>hB1.up _ _ (hup b c hb)),?_⟩;rintro v H1 ρ1 ⟨⟨A1,a1,rfl⟩,o1⟩ sp1 hle1;have hup1:∀ i c,h.m i=some c→H1.m i=some c:=(fun i c hi=>(o1.2 i (hB1.dom _ _ (hB1.up _ _ (hup _ _ hi)))).trans (hB1.up _ _ (hup _ _ hi))))|refine Y7 ?_|refine Y29 ?_|refine Y2 ?_|refine Y9 ?_|refine Y0 ?_|refine Y1 ?_|refine Ym ?_))
   ((with_reducible apply W.seq);repeat (first|refine Y2e ?_|((with_reducible apply (RS.callEx (g0:=8)));(iterate 3 exact rfl);intro B2 hB2;refine ⟨_,check_kind q1.2 q1.1 (hg.up fun b c hb=>hB2.up _ _ (hup1 b c hb)),?_⟩;rintro v H2 ρ2 ⟨⟨A2,a2,rfl⟩,o2⟩ sp2 hle2;have hup2:∀ i c,B2.m i=some c→H2.m i=some c:=(fun i c hi=>(o2.2 i (hB2.dom _ _ hi)).trans hi);have h8:H2.m (ρ1 0)=some ⟨⟨[.int .i64 ((15:Nat):Int),.int .i64 a1]⟩,28⟩:=hup2 _ _ (hB2.loc 0 (Nat.lt_succ_self 0));have hw2:∀ i c,h.m i=some c→H2.m i=some c:=(fun i c hi=>hup2 _ _ (hB2.up _ _ (hup1 _ _ hi))))|refine Y7 ?_|refine Y29 ?_|refine Y2 ?_|refine Y9 ?_|refine Y0 ?_|refine Y1 ?_|refine Ym ?_))
   ((with_reducible apply W.seq);repeat (first|refine Y2e ?_|((with_reducible apply (RS.callEx (g0:=8)));(iterate 3 exact rfl);intro B3 hB3;refine ⟨_,check_kind q2.2 q2.1 (hg.up fun b c hb=>hB3.up _ _ (hw2 b c hb)),?_⟩;rintro v H3 ρ3 ⟨⟨A3,a3,rfl⟩,o3⟩ sp3 hle3;have hup3:∀ i c,B3.m i=some c→H3.m i=some c:=(fun i c hi=>(o3.2 i (hB3.dom _ _ hi)).trans hi);have h10:H3.m (ρ2 0)=some ⟨⟨[.int .i64 ((0:Nat):Int),.int .i64 a2]⟩,28⟩:=hup3 _ _ (hB3.loc 0 (Nat.lt_succ_self 0));have hw3:∀ i c,H2.m i=some c→H3.m i=some c:=(fun i c hi=>hup3 _ _ (hB3.up _ _ hi)))|refine Y7 ?_|refine Y29 ?_|refine Y2 ?_|refine Y9 ?_|refine Y0 ?_|refine Y1 ?_|refine Ym ?_))
   repeat (first|refine Y2e ?_|((with_reducible apply (RS.callEx (g0:=8)));(iterate 3 exact rfl);intro B4 hB4;refine ⟨_,check_kind q3.2 q3.1 (hg.up fun b c hb=>hB4.up _ _ (hw3 _ _ (hw2 b c hb))),?_⟩;rintro v H4 ρ4 ⟨⟨A4,a4,rfl⟩,o4⟩ sp4 hle4;have hup4:∀ i c,B4.m i=some c→H4.m i=some c:=(fun i c hi=>(o4.2 i (hB4.dom _ _ hi)).trans hi);have h12:H4.m (ρ3 0)=some ⟨⟨[.int .i64 ((15:Nat):Int),.int .i64 a3]⟩,28⟩:=hup4 _ _ (hB4.loc 0 (Nat.lt_succ_self 0));have hw4:∀ i c,H3.m i=some c→H4.m i=some c:=(fun i c hi=>hup4 _ _ (hB4.up _ _ hi));have h10:=hw4 _ _ h10;have h8:=hw4 _ _ (hw3 _ _ h8);have h8n:=sp4.dom _ _ h8;have h10n:=sp4.dom _ _ h10;have h12n:=sp4.dom _ _ h12)|((with_reducible apply RS.load1B);(iterate 3 exact rfl);first|exact h8;exact h8n;exact rfl|exact h10;exact h10n;exact rfl|exact h12;exact h12n;exact rfl)|refine Yu ?_|refine Yd ?_|refine Y6 ?_|refine Y29 ?_|refine Yh ?_|refine Y2 ?_|refine Y9 ?_|refine Y0 ?_|refine Yq ?_|refine Y1 ?_)
   exact endsK_ret _ (.cons (.tmp rfl) .nil) fun B' a=>⟨rfl,fun i c hi=>a.up _ _ (hw4 _ _ (hw3 _ _ (hw2 _ _ hi)))⟩
end Go.Proofs.YtgpigfcagppohaaGreatDoor
namespace Go.Proofs.YtgpigfcagppohaaGreatDoor
open Go.AH Go.ChangeShapes Go.WideShapes Go.ChangeAt Go.RowKit
variable {H:Type} {enc:TypeId × Value→H} {W:World} {G:Nat} {g0:Nat→Option Blk}
theorem trodAll_below {P:Program} (hl:laidOutB P=true) {W W':World} (hb:Below W.heap.size W W'):∀ {ts:List TypeId} {vs:List Value} {ds:List (DataW H)} {ps:List MemPlace},(∀ t∈ts,P.readableRec t=true∧t < P.types.size)→(∀ x∈ps,x.block < W.heap.size)→DataW.TrodAll enc P W 0 (fun _=>true) true ts vs ds ps→DataW.TrodAll enc P W' 0 (fun b=>decide (b < W.heap.size)) true ts vs ds ps:=by
 intro ts
 induction ts with
 | nil =>
  intro vs ds ps _ _ h
  cases vs with
  | nil=>cases ds with
   | nil=>exact h
   | cons d ds=>exact h.elim
  | cons v vs=>exact h.elim
 | cons t ts ih =>
  intro vs ds ps ht hx h
  cases vs with
  | nil=>exact h.elim
  | cons v vs =>
   cases ds with
   | nil=>exact h.elim
   | cons d ds =>
    obtain ⟨p,q,h1,h2,rfl⟩:=h
    exact ⟨p,q,Below.trod hl (ht t (by simp)).1 (ht t (by simp)).2 h1 hb fun x hx'=>hx x (by simp [hx']),ih (fun t ht'=>ht t (by simp [ht'])) (fun x hx'=>hx x (by simp [hx'])) h2,rfl⟩
theorem Tryz.own:ownKnob Tryz.prog.godebug=none:=by kernel_rfl
theorem Tryz.laidOut:laidOutB Tryz.prog=true:=by kernel_rfl
theorem TW.of {P:Program} {W:World} {t:TypeId} {v:Value} {d:DataW H} {p:List MemPlace} (h:DataW.Trod enc P W 0 (fun _=>true) true t v d p) (hw:okW (d.weights P t)):TW enc P W t v.cells.toList:=by
 obtain ⟨fuel,h⟩:=h
 exact ⟨fuel,(d,p),h,hw⟩
theorem shutB {P:Program} {W:World} {base:Nat} {sp:Nat→Bool} {held:Bool} {t:TypeId} {b:Bool} (ht:P.underlying t=some .bool):DataW.Trod enc P W base sp held t (.bool b) (.lit (.bool b)) []:=⟨1,by simp [DataW.trod,Value.cells,ht]⟩
end Go.Proofs.YtgpigfcagppohaaGreatDoor
namespace Go.Proofs.YtgpigfcagppohaaGreatDoor
open Go Go.AH Go.RowKit
def pLaid : List (String × DataW Unit) := [("unicode.White_Space", Rows.laid_unicode_White_Space), ("strings.asciiSpace", Rows.laid_strings_asciiSpace)]
theorem gSpace : Tryz.prog.globalNamed "strings.asciiSpace" = some 0 := by kernel_rfl
theorem tSpace:(Tryz.prog.globals[0]?).map (·.type)=some 249:=by kernel_rfl
theorem laid_space:(Rows.laid_strings_asciiSpace:DataW Unit)=Lib.tabData .u8 Lib.asciiSpaceTab:=by kernel_rfl
theorem cellsSpace:Tryz.prog.cellsOf 249=256:=by kernel_rfl
theorem cellsU8:Tryz.prog.cellsOf 5=1:=by kernel_rfl
theorem tab_space:Lib.asciiSpaceTab.map (Value.int .u8)=spaceV:=by kernel_rfl
theorem rowSpace:∃ z,((begin Tryz.prog (fun _ _=>0) default).world.heap[0]?).bind Obj.row?=some (z,249):=by
 have h:(((begin Tryz.prog (fun _ _=>0) default).world.heap[0]?).bind Obj.row?).map Prod.snd=some 249:=by kernel_rfl
 obtain ⟨⟨z,t⟩,h1,h2⟩:=Option.map_eq_some_iff.1 h
 simp only at h2
 subst h2
 exact ⟨z,h1⟩
theorem rowMax:((begin Tryz.prog (fun _ _=>0) default).world.heap[1]?).bind Obj.row?=some (#[.int .i64 0],3):=by kernel_rfl
theorem gsizeP:Tryz.prog.globals.size=4:=by kernel_rfl
set_option maxRecDepth 100000 in
theorem p_tab {W : World} (h : laidMetH Tryz.prog pLaid W) : W.var? Tryz.prog "strings.asciiSpace" = some spaceV.toArray := by
 rw [MakeChecks.laidMetH_plain _ _ _ (by kernel_rfl)] at h
 obtain ⟨ps,⟨_,_,_,_,_,_,_,_,_,_,⟨g2,t2,c2,f2,p2,q2,hg2,ht2,hv2,hd2,_,_⟩,_⟩,_⟩:=h
 obtain rfl:=Option.some.inj (gSpace.symm.trans hg2)
 obtain rfl:=Option.some.inj (tSpace.symm.trans ht2)
 rw [laid_space] at hd2
 have e2:=Lib.cells_of_tab Tryz.underlying249 Tryz.underlying5 cellsU8 cellsSpace hd2
 rw [hv2,← tab_space,← e2]
theorem p_start {W:World} (hsh:W.ShapedOpen Tryz.prog) (hL:laidMetH Tryz.prog pLaid W):∃ g0:Nat→Option Blk,(∀ i b,i < Tryz.prog.globals.size→g0 i=some b→(∃ (tail:Array Value) (fr:Nat × Nat),W.heap[i]?=some (.cells (b.cells++tail) b.elem fr))∧∀ v∈b.cells,bnd 0 v)∧∀ ws,G0 (hpW Tryz.prog.globals.size g0 ws):=by
 obtain ⟨z0,h0⟩:=rowSpace
 obtain ⟨c0,hh0,_,_⟩:=hsh.1 _ z0 _ (by rw [gsizeP];decide) h0
 obtain ⟨ds,hd,hds,_⟩:=hsh.1 _ _ _ (by rw [gsizeP];decide) rowMax
 obtain ⟨m,hm⟩:=cell_of_shapedOpen_int hsh (by rw [gsizeP];decide) rowMax rfl (by kernel_rfl) (by kernel_rfl) Tryz.underlying3
 have hn:=p_tab hL
 have e0:c0=spaceV.toArray:=by
  unfold World.var? at hn
  rw [gSpace] at hn
  simpa only [Option.bind_some,hh0,Option.some.injEq] using hn
 have hdv:ds=⟨[.int .i64 m]⟩:=by
  have h1:ds.size=1:=hds
  obtain ⟨l⟩:=ds
  match l,h1 with
  | [v],_ =>
   simp only [World.cell?,hd] at hm
   simp at hm
   rw [hm]
 refine ⟨fun i=>if i=0 then some ⟨⟨spaceV⟩,249⟩ else if i=1 then some ⟨⟨[.int .i64 m]⟩,3⟩ else none,fun i b hi hb=>?_,fun ws=>⟨⟨m,?_⟩,?_⟩⟩
 ·dsimp only at hb
  by_cases q0:i=0
  ·rw [if_pos q0] at hb
   injection hb with hb
   subst hb
   refine ⟨⟨#[],_,by rw [q0,hh0,e0,Array.append_empty]⟩,fun v hv=>?_⟩
   have hv:v∈spaceV:=by simpa using hv
   obtain ⟨s,_,rfl⟩:=List.mem_map.1 hv
   simp
  ·rw [if_neg q0] at hb
   by_cases q1:i=1
   ·rw [if_pos q1] at hb
    injection hb with hb
    subst hb
    refine ⟨⟨#[],_,by rw [q1,hd,hdv,Array.append_empty]⟩,fun v hv=>?_⟩
    have hv:v=.int .i64 m:=by simpa using hv
    rw [hv];simp
   ·rw [if_neg q1] at hb;cases hb
 ·simp [hpW,gsizeP]
 ·simp [hpW,gsizeP]
theorem p_door (os:Os) (args:Array Value):laidMetH Tryz.prog pLaid ((World.doorLaid Tryz.prog 4000 os).forCall (fun _ _=>0) ⟨#[],args,[]⟩).memory :=
 laidMetH_of_parts3 (fuel:=8) (laidMet_of_run' 8 (by kernel_rfl) (by kernel_rfl)) (by kernel_rfl) (by kernel_rfl)
end Go.Proofs.YtgpigfcagppohaaGreatDoor
namespace Go.Proofs.YtgpigfcagppohaaGreatDoor
open Go Go.AH Go.ChangeShapes Go.WideShapes Go.ChangeAt Go.RowKit
theorem okWide_cells {P:Program} {W:World} {r:Go.Reach} {base:Nat} {t e:TypeId} {v:Value} (ht:P.underlying t=some (.slice e)) (h:Value.okWide P W r base t v):v.cells.toList=[v]:=by
 simp only [Value.okWide,ht,Cell.okWide] at h
 cases v with
 | agg cs=>simp [Cell.ok,ht] at h
 | _=>rfl
def intΦ (_:Hp) (acs:List Value):Prop:=∃ n,acs=[.int .i64 n]∧IntKind.i64.min≤n∧n≤IntKind.i64.max
theorem up_int:UpΦ intΦ:=fun _ _ _ _ h=>h
theorem row_sg {H:Hp} {acs:List Value} {M:Nat} (h:RowΦ 1 M intΦ H acs):∃ A c l,acs=[.slice A (l:List Int).length c]∧SgAt H A l:=by
 obtain ⟨A,c,accs,rfl,r,_⟩:=h
 have key:∀ accs:List (List Value),(∀ a∈accs,intΦ H a∧a.length=1)→∃ l:List Int,accs=l.map fun n=>[Value.int .i64 n]:=by
  intro accs
  induction accs with
  | nil=>intro _;exact ⟨[],rfl⟩
  | cons a accs ih =>
   intro ha
   obtain ⟨n,hn,_⟩:=(ha a (by simp)).1
   obtain ⟨l,hl⟩:=ih fun b hb=>ha b (by simp [hb])
   exact ⟨n::l,by rw [hn,hl];rfl⟩
 obtain ⟨l,rfl⟩:=key accs r.all
 refine ⟨A,c,l,by rw [List.length_map],?_⟩
 cases l with
 | nil=>exact .inl rfl
 | cons x l =>
  obtain ⟨b,e,hA,hb⟩:=r.at_ (by simp)
  refine .inr ⟨b,0,_,e,hA,hb,fun i v hv=>?_⟩
  have:((x::l).map fun n=>[Value.int .i64 n]).flatten=(x::l).map fun n=>Value.int .i64 n:=by
   generalize x::l=m
   induction m with
   | nil=>rfl
   | cons a m ih=>simp only [List.map_cons,List.flatten_cons,ih];rfl
  rw [this,Nat.zero_add,Nat.mul_one,List.getElem?_map,hv];rfl
set_option maxRecDepth 100000 in
theorem checkFlows_lifted (os:Os) (started:os.Started) (H:Type) (enc:TypeId × Value→H) :
 ReturnsInHanded {} Tryz.checked os 3 .any (fun w args=>(Rows.checkFlowsSpec.pre enc Tryz.prog Tryz.f3 [] false w args∧laidMetH Tryz.prog pLaid w)∧sizedMet enc Tryz.prog Tryz.f3 (OpenSpec.ofChange Rows.checkFlowsSpec) false w args)
  (Rows.checkFlowsSpec.post enc Tryz.prog Tryz.f3 false true false false):=by
 refine handed_and_shaped (C:=Tryz.checked) (X:=fun w _=>laidMetH Tryz.prog pLaid w) (fun _ _ _ hh h=>h.of_heap hh) Tryz.own started (by kernel_rfl) Tryz.func3
  (ChangeSpec.witness_shaped (enc:=enc) (C:=Tryz.checked) (os:=os) (X:=fun w _=>laidMetH Tryz.prog pLaid w) false (World.doorLaid Tryz.prog 4000 os) #[.slice none 0 0] 8 rfl (World.shaped_of_RefB (by kernel_rfl) (by kernel_rfl)) (by kernel_rfl) (by kernel_rfl) (by kernel_rfl) (p_door os _)) ?_
 intro W base args ds gs before hval0 hW _ hwt0 hL hsh _
 have hval:∀ (j:Nat) t v,Tryz.f3.params[j]?=some t→args[j]?=some v→Value.okWide Tryz.prog W .any base t v:=hval0
 have hwt:(DataW.weightsEach Tryz.prog (Tryz.f3.params.toList++Rows.checkFlowsSpec.plain.varTypes Tryz.prog) (ds++gs)).all (·≤reachBytes)=true:=hwt0
 have hW':DataW.Whole enc Tryz.prog Tryz.f3.params.toList Rows.checkFlowsSpec.vars false W args.toList ds gs before:=hW
 obtain ⟨p,q,hA0,hV,hbe,hfz,hnd⟩:=hW
 have hA:DataW.TrodAll enc Tryz.prog W 0 (fun _=>true) true Tryz.f3.params.toList args.toList ds p:=hA0
 have hpar:Tryz.f3.params=#[22]:=by kernel_rfl
 have hA1:=hA
 rw [hpar] at hA1 hval hwt
 obtain ⟨v1,d1,rfl,rfl,h1⟩:=trodAll_one hA1
 obtain ⟨rfl,rfl⟩:=trodVars_none hV
 have hw3:(DataW.weightsEach Tryz.prog [22] [d1]).all (fun x=>decide (x≤reachBytes))=true:=hwt
 simp only [DataW.weightsEach,List.all_append,Bool.and_eq_true] at hw3
 have hk1:okW (d1.weights Tryz.prog 22):=fun n hn=>by simpa using List.all_eq_true.1 hw3.1 n hn
 have t1:TW enc Tryz.prog W 22 v1.cells.toList:=TW.of h1 hk1
 rw [okWide_cells Tryz.underlying22 (hval 0 22 v1 rfl rfl)] at t1
 obtain ⟨g0,hg0,hgt⟩:=p_start hsh hL
 obtain ⟨ws,acs,hlay,hlen,hmap,hbd,hΦ⟩:=D.row (g0:=g0) (G:=Tryz.prog.globals.size) (e:=3) (w:=1) (N:=0) up_int Tryz.underlying22 (by kernel_rfl) (by decide) (Nat.le_of_ble_eq_true (by kernel_rfl)) (fun c hc=>D.int Tryz.underlying3 hc) t1 [] ⟨fun i w b h=>by simp at h,fun i w b h=>by simp at h⟩
 rw [List.nil_append] at hlay hmap hbd hΦ
 obtain ⟨A,c,l,rfl,hs⟩:=row_sg hΦ
 have hG:Tryz.prog.globals.size+ws.length≤rwM:=Nat.le_trans (Nat.add_le_add_left hlen _) (Nat.le_of_ble_eq_true (by kernel_rfl))
 have hN:(hpW Tryz.prog.globals.size g0 ws).n=rwM:=hpW_n _ _ _
 have ht:=flows_tf l A c (hpW Tryz.prog.globals.size g0 ws) (hgt ws) hs
 have hh:=TF.below ht (fun i b h=>h) (by
  intro x hx
  have hx:x=.slice A l.length c:=by simpa using hx
  subst hx
  rw [hN];exact bnd_mono hG _ (hbd _ (by simp))) (Lay.hok hlay hG hg0)
 have hv1:ren (envW Tryz.prog.globals.size ws) (.slice A l.length c)=v1:=by
  have:[ren (envW Tryz.prog.globals.size ws) (.slice A l.length c)]=[v1]:=hmap
  injection this
 have hargs:(⟨[.slice A l.length c]⟩:Array Value).map (ren (envW Tryz.prog.globals.size ws))=#[v1]:=by
  simp only [List.map_toArray,List.map_cons,List.map_nil,hv1]
 rw [hargs] at hh
 refine hh.mono fun e W' ⟨⟨ρ',he⟩,hb⟩=>?_
 have hres:DataW.TrodAll enc Tryz.prog W' W.heap.size (fun _=>false) false [4] [.bool true] [.lit (.bool true)] []:=trodAll_mk1 (shutB (by kernel_rfl))
 refine ⟨.bool true,by simpa using he,[d1],[],before,[],p,[],hW',hres,?_,rfl,Below.frame hb _,fun h=>by cases h⟩
 refine trodAll_below Tryz.laidOut hb (ts:=Tryz.f3.params.toList) (fun t ht=>?_) (fun x hx=>hW'.lt x (by rw [hbe,List.append_nil];exact hx)) hA
 rw [hpar] at ht
 have ht:t=22:=by simpa using ht
 subst ht
 exact ⟨by kernel_rfl,of_decide_eq_true (by kernel_rfl)⟩
theorem checkFlows_holds:Rows.CheckFlowsSaid :=
 OpenClaim.holds_of_wide 3 Tryz.f3 rfl rfl rfl rfl rfl rfl rfl ⟨rfl,rfl,rfl,rfl,rfl⟩ rfl rfl rfl rfl rfl (by kernel_rfl) Tryz.func3 (by kernel_rfl)
  (of_decide_eq_true (by kernel_rfl)) (by unfold Func.isWrapper;rw [if_neg (by decide +kernel)];exact ⟨rfl,rfl⟩)
  (fun os started H enc _=>checkFlows_lifted os started H enc)
theorem checkFlows_card:Rows.CheckFlowsCardSaid :=
 Claim7.holds_tied_plain_at .later [] [.listed, .data] true (true, "c63b4bed0d00ffcd55c8b572361a0828c2b8495a8bb903e5b9ffd1234f9a7e55") false
  checkFlows_holds (fun _ h=>by cases h) (by kernel_rfl) (fun _ h=>by cases h) checkFlows_row_tie rfl ⟨rfl,rfl⟩ (by kernel_rfl) rfl
  (fun f fn hf hfn=>by
   obtain rfl:f=3:=Option.some.inj ((show Tryz.prog.funcNamed Rows.checkFlowsRow.func=some 3 by kernel_rfl).symm.trans hf) |>.symm
   obtain rfl:fn=Tryz.f3:=(Option.some.inj (Tryz.func3.symm.trans hfn)).symm
   exact ⟨by kernel_rfl,fun j t ht=>by
    rw [show Tryz.f3.params=#[22] by kernel_rfl] at ht
    have h3:t=22:=by
     rcases j with _|j
     ·simpa using ht.symm
     ·simp at ht
    subst h3
    exact (show Tryz.prog.wantsStandIn 22=false by kernel_rfl)⟩)
  (by kernel_rfl)
#print axioms checkFlows_card
end Go.Proofs.YtgpigfcagppohaaGreatDoor
