/-
  What the functions that the law reaches compute,told by plain data;it holds of programs that pass the check of right form and are light.
-/
import Derived.Carry
import Derived.LaidMore
import Derived.Lib.LaidTab
import Derived.Lib.Space
import Derived.OpenShut
import Derived.ProofKit
import Derived.Shelf.Vars
import Derived.Stop.Joined
import Derived.Test.YtgpigfcagppohaaGreatDoorCards
import Derived.Test.YtgpigfcagppohaaGreatDoorChecked
import Derived.Test.YtgpigfcagppohaaGreatDoorR34
import Derived.Test.YtgpigfcagppohaaGreatDoorR37
import Derived.Test.YtgpigfcagppohaaGreatDoorR39
import Derived.Test.YtgpigfcagppohaaGreatDoorS2
import Derived.Test.YtgpigfcagppohaaGreatDoorS3
import Derived.Test.YtgpigfcagppohaaGreatDoorTie
set_option linter.unusedVariables false
set_option linter.unusedSimpArgs false
namespace Go.Proofs.YtgpigfcagppohaaGreatDoor
open Go.AH
attribute [local irreducible] W RS WR
set_option maxHeartbeats 4000000 in
theorem scopes_tf (n c:Int) (h:Hp) (hg:G0 h):TF Tryz.prog 4 ⟨[.int .i64 n,.int .i64 c]⟩ h (.bool true) h:=by
 obtain ⟨m,hm3,hm,hmb⟩:∃ m:Nat,m < 20∧(n.tmod 20+20).tmod 20=(m:Int)∧-9223372036854775808≤n.tmod 20+20∧n.tmod 20+20≤9223372036854775807:=mod_fit (m:=20) (by decide) (by decide)
 obtain ⟨w,hw3,hw,hwb⟩:∃ m:Nat,m < 40∧(c.tmod 40+40).tmod 40=(m:Int)∧-9223372036854775808≤c.tmod 40+40∧c.tmod 40+40≤9223372036854775807:=mod_fit (m:=40) (by decide) (by decide)
 have hk1:=scopes_law (w:=w) (z:=false) hm3
 have hk2:=scopes_law (w:=w) (z:=true) hm3
 have hl1:=scope_total (w:=w) (z:=false) hm3
 have hl2:=scope_total (w:=w) (z:=true) hm3
 refine TF.exact (fn:=Tryz.f4) (c:=(Tryz.f4.body.getD .skip)) Tryz.func4 (by kernel_rfl) Tryz.ntmps4 (by kernel_rfl) (fun s0=>⟨Nat.le_refl _,by simp,fun i b hb=>⟨s0.dom i b hb,fun u hu=>s0.bd i b hb u hu⟩⟩) fun π s0=>?_
 conv=>arg 2;whnf
 ((with_reducible apply W.seq);repeat (first|refine Yw ?_|refine Y0 ?_|refine Y1 ?_|refine Yl ?_))
 ((with_reducible apply W.seq);repeat (fail))
 ((with_reducible apply W.seq);repeat (first|((with_reducible apply (RS.callA (g0:=7)));(iterate 3 exact rfl);exact fun B' hB'=>fit5_tf B' (hg.up hB'.up))|((with_reducible apply RS.not);iterate 3 exact rfl)|refine Y0 ?_|refine Y1 ?_|refine Y1l ?_|refine Y3 ?_))
 ((with_reducible apply W.seq);repeat (first|((with_reducible apply RS.remV);(iterate 4 exact rfl);first|decide;exact hm|decide;exact rfl)|((with_reducible apply RS.binFit);(iterate 5 exact rfl);exact hmb)|refine Y7 ?_|refine Y0 ?_|refine Y1 ?_|refine Yl ?_))
 ((with_reducible apply W.seq);repeat (first|((with_reducible apply RS.remV);(iterate 4 exact rfl);first|decide;exact hw|decide;exact rfl)|((with_reducible apply RS.binFit);(iterate 5 exact rfl);exact hwb)|refine Y7 ?_|refine Y0 ?_|refine Y1 ?_|refine Yl ?_))
 ((with_reducible apply W.seq);repeat (first|refine Yw ?_|refine Y0 ?_|refine Y1 ?_|refine Yl ?_))
 ((with_reducible apply W.seq);repeat (fail))
 ((with_reducible apply W.seq);repeat (first|refine Yz ?_|refine Y0 ?_|refine Y1 ?_|refine Y20 ?_))
 refine W.loopN (X:=Nat) (fun i=>[(0,.int .i64 (m:Int)),(1,.int .i64 (w:Int)),(5,.string ⟨⟨scopeR w i⟩⟩),(21,.int .i64 (m:Int)),(22,.int .i64 (i:Int))]) (fun i B=>(∀ b c,h.m b=some c→B.m b=some c)∧i≤m) (fun i=>m - i)
  (fun B' a=>⟨0,?_,a.up,Nat.zero_le _⟩) ?_
 ·(repeat' (first|exact trivial|exact rfl|apply And.intro));done
 rintro i B π1 sB ⟨hup,hi⟩
 dsimp only
 have hsl:=scope_len w i
 by_cases hlt:i < m
 ·by_cases hiw:i=w
  ·repeat (first|refine Y1d ?_|refine Y6 ?_|refine Y7 ?_|refine Yp ?_|refine Y0 ?_|refine Yq ?_|refine Y1 ?_|refine Y5 ?_)
   refine roundN_n rfl fun B' a=>⟨i+1,⟨rfl,rfl,?_,rfl,rfl,trivial⟩,⟨fun b c hb=>a.up _ _ (hup b c hb),hlt⟩,by omega⟩
   show some (Value.string ⟨⟨(scopeR w i++scB)++scC⟩⟩)=some (Value.string ⟨⟨scopeR w (i+1)⟩⟩)
   rw [scopeR,if_pos hiw]
  ·repeat (first|refine Y1d ?_|refine Y6 ?_|refine Y4 ?_|refine Y7 ?_|refine Yp ?_|refine Y0 ?_|refine Yq ?_|refine Y1 ?_|refine Y5 ?_|refine Y3 ?_)
   refine roundN_n rfl fun B' a=>⟨i+1,⟨rfl,rfl,?_,rfl,rfl,trivial⟩,⟨fun b c hb=>a.up _ _ (hup b c hb),hlt⟩,by omega⟩
   show some (Value.string ⟨⟨scopeR w i++scB⟩⟩)=some (Value.string ⟨⟨scopeR w (i+1)⟩⟩)
   rw [scopeR,if_neg hiw,List.append_nil]
 ·obtain rfl:i=m:=by omega
  ((with_reducible apply W.seq);repeat (first|refine Y4 ?_|refine Y0 ?_|refine Y1 ?_|refine Yl ?_))
  ((with_reducible apply W.seq);repeat (first|refine Y60 ?_|refine Y3 ?_|refine Ym ?_))
  ((with_reducible apply W.seq);repeat (first|refine Y1d ?_|refine Y7 ?_|refine Y0 ?_|refine Y1 ?_|refine Yl ?_))
  ((with_reducible apply W.seq);repeat (fail))
  ((with_reducible apply W.seq);repeat (first|refine Yz ?_|refine Y0 ?_|refine Y1 ?_|refine Y20 ?_))
  refine W.loopN (X:=Nat) (fun j=>[(0,.int .i64 (i:Int)),(1,.int .i64 (w:Int)),(5,.string ⟨⟨scopeR w i++scD++repL scE j⟩⟩),(35,.int .i64 (i:Int)),(36,.int .i64 (j:Int))]) (fun j B=>(∀ b c,h.m b=some c→B.m b=some c)∧j≤i) (fun j=>i - j)
   (fun B' a=>⟨0,?_,fun b c hb=>a.up _ _ (hup b c hb),Nat.zero_le _⟩) ?_
  ·refine ⟨rfl,rfl,?_,rfl,rfl,trivial⟩
   show some (Value.string ⟨⟨scopeR w i++scD⟩⟩)=some (Value.string ⟨⟨scopeR w i++scD++[]⟩⟩)
   rw [List.append_nil]
  rintro j B2 π2 sB2 ⟨hup2,hj⟩
  dsimp only
  have hsl2:(scopeR w i++scD++repL scE j).length≤700:=by
   rw [List.length_append,List.length_append,repL_len,show scD.length=8 from rfl,show j * scE.length=j * 2 from rfl]
   omega
  by_cases hlt2:j < i
  ·repeat (first|refine Y1d ?_|refine Y6 ?_|refine Y7 ?_|refine Yp ?_|refine Y0 ?_|refine Yq ?_|refine Y1 ?_|refine Y5 ?_)
   refine roundN_n rfl fun B' a=>⟨j+1,⟨rfl,rfl,?_,rfl,rfl,trivial⟩,⟨fun b c hb=>a.up _ _ (hup2 b c hb),hlt2⟩,by omega⟩
   show some (Value.string ⟨⟨(scopeR w i++scD++repL scE j)++scE⟩⟩)=some (Value.string ⟨⟨scopeR w i++scD++(repL scE j++scE)⟩⟩)
   rw [List.append_assoc]
  ·obtain rfl:j=i:=by omega
   obtain ⟨k1,hk1e⟩:∃ k,(if w < j then 13 else if false=true then 12 else 0)=k:=⟨_,rfl⟩
   obtain ⟨k2,hk2e⟩:∃ k,(if w < j then 13 else if true=true then 12 else 0)=k:=⟨_,rfl⟩
   rw [hk1e] at hk1
   rw [hk2e] at hk2
   have hq1:ckindT ((scopeR w j++scD++repL scE j)++scY)=some k1∧((scopeR w j++scD++repL scE j)++scY).length≤16384:=⟨hk1,Nat.le_trans hl1 (by decide)⟩
   have hq2:ckindT ((scopeR w j++scD++repL scE j)++scZ)=some k2∧((scopeR w j++scD++repL scE j)++scZ).length≤16384:=⟨hk2,Nat.le_trans hl2 (by decide)⟩
   ((with_reducible apply W.seq);repeat (first|refine Y4 ?_|refine Y0 ?_|refine Y1 ?_|refine Yl ?_))
   ((with_reducible apply W.seq);repeat (first|refine Y60 ?_|refine Y3 ?_|refine Ym ?_))
   ((with_reducible apply W.seq);repeat (first|refine Y1d ?_|((with_reducible apply (RS.callEx (g0:=8)));(iterate 3 exact rfl);intro B3 hB3;have hax:=check_kind hq1.2 hq1.1 (hg.up fun b c hb=>hB3.up _ _ (hup2 b c hb));refine ⟨_,hax,?_⟩;rintro v H1 ρ1 ⟨⟨A1,a1,rfl⟩,o1⟩ sp1 hle1;have hup3:∀ i c,h.m i=some c→H1.m i=some c:=(fun i c hi=>(o1.2 i (hB3.dom _ _ (hB3.up _ _ (hup2 _ _ hi)))).trans (hB3.up _ _ (hup2 _ _ hi))))|refine Y7 ?_|refine Y2s ?_|refine Y2 ?_|refine Y9 ?_|refine Y0 ?_|refine Y1 ?_|refine Yl ?_))
   ((with_reducible apply W.seq);repeat (first|refine Y1d ?_|((with_reducible apply (RS.callEx (g0:=8)));(iterate 3 exact rfl);intro B4 hB4;have hax:=check_kind hq2.2 hq2.1 (hg.up fun b c hb=>hB4.up _ _ (hup3 b c hb));refine ⟨_,hax,?_⟩;rintro v H2 ρ2 ⟨⟨A2,a2,rfl⟩,o2⟩ sp2 hle2;have hup4:∀ i c,B4.m i=some c→H2.m i=some c:=(fun i c hi=>(o2.2 i (hB4.dom _ _ hi)).trans hi);have h8:H2.m (ρ1 0)=some ⟨⟨[.int .i64 (k1:Int),.int .i64 a1]⟩,28⟩:=hup4 _ _ (hB4.loc 0 (Nat.lt_succ_self 0));have h8n:=sp2.dom _ _ h8)|refine Y7 ?_|refine Y2s ?_|refine Y2 ?_|refine Y9 ?_|refine Y0 ?_|refine Y1 ?_|refine Yl ?_))
   by_cases hwj:w < j
   ·rw [if_pos hwj] at hk1e hk2e
    subst hk1e
    subst hk2e
    repeat (first|refine Y6 ?_|((with_reducible apply RS.load1B);(iterate 3 exact rfl);exact h8;exact h8n;exact rfl)|refine Yr ?_|refine Yd ?_|refine Yh ?_|refine Y0 ?_|refine Y13 ?_|refine Y1 ?_|refine Y5 ?_)
    exact endsK_ret _ (.cons (.tmp rfl) .nil) fun B' a=>⟨rfl,fun i c hi=>a.up _ _ (hup4 _ _ (hB4.up _ _ (hup3 _ _ hi)))⟩
   ·rw [if_neg hwj] at hk1e hk2e
    rw [if_neg (by decide)] at hk1e
    rw [if_pos rfl] at hk2e
    subst hk1e
    subst hk2e
    repeat (first|refine Y6 ?_|refine Y4 ?_|((with_reducible apply RS.load1B);(iterate 3 exact rfl);exact h8;exact h8n;exact rfl)|refine Yr ?_|refine Yd ?_|refine Yh ?_|refine Y0 ?_|refine Yv ?_|refine Y1 ?_|refine Y3 ?_)
    exact endsK_ret _ (.cons (.tmp rfl) .nil) fun B' a=>⟨rfl,fun i c hi=>a.up _ _ (hup4 _ _ (hB4.up _ _ (hup3 _ _ hi)))⟩
end Go.Proofs.YtgpigfcagppohaaGreatDoor
namespace Go.Proofs.YtgpigfcagppohaaGreatDoor
open Go.AH Go.ChangeShapes Go.WideShapes Go.ChangeAt Go.RowKit
variable {H:Type} {enc:TypeId × Value→H} {W:World} {G:Nat} {g0:Nat→Option Blk}
theorem trodAll_below {P:Program} (hl:laidOutB P=true) {W W':World} (hb:Below W.heap.size W W'):∀ {ts:List TypeId} {vs:List Value} {ds:List (DataW H)} {ps:List MemPlace},(∀ t∈ts,P.readableRec t=true∧t < P.types.size)→(∀ x∈ps,x.block < W.heap.size)→DataW.TrodAll enc P W 0 (fun _=>true) true ts vs ds ps→DataW.TrodAll enc P W' 0 (fun b=>decide (b < W.heap.size)) true ts vs ds ps:=by
 intro ts
 induction ts with
 | nil =>
  intro vs ds ps _ _ h
  cases vs with
  | nil=>cases ds with
   | nil=>exact h
   | cons d ds=>exact h.elim
  | cons v vs=>exact h.elim
 | cons t ts ih =>
  intro vs ds ps ht hx h
  cases vs with
  | nil=>exact h.elim
  | cons v vs =>
   cases ds with
   | nil=>exact h.elim
   | cons d ds =>
    obtain ⟨p,q,h1,h2,rfl⟩:=h
    exact ⟨p,q,Below.trod hl (ht t (by simp)).1 (ht t (by simp)).2 h1 hb fun x hx'=>hx x (by simp [hx']),ih (fun t ht'=>ht t (by simp [ht'])) (fun x hx'=>hx x (by simp [hx'])) h2,rfl⟩
theorem Tryz.own:ownKnob Tryz.prog.godebug=none:=by kernel_rfl
theorem Tryz.laidOut:laidOutB Tryz.prog=true:=by kernel_rfl
theorem shutB {P:Program} {W:World} {base:Nat} {sp:Nat→Bool} {held:Bool} {t:TypeId} {b:Bool} (ht:P.underlying t=some .bool):DataW.Trod enc P W base sp held t (.bool b) (.lit (.bool b)) []:=⟨1,by simp [DataW.trod,Value.cells,ht]⟩
end Go.Proofs.YtgpigfcagppohaaGreatDoor
namespace Go.Proofs.YtgpigfcagppohaaGreatDoor
open Go Go.AH Go.RowKit
def pLaid : List (String × DataW Unit) := [("unicode.White_Space", Rows.laid_unicode_White_Space), ("strings.asciiSpace", Rows.laid_strings_asciiSpace)]
theorem gSpace : Tryz.prog.globalNamed "strings.asciiSpace" = some 0 := by kernel_rfl
theorem tSpace:(Tryz.prog.globals[0]?).map (·.type)=some 249:=by kernel_rfl
theorem laid_space:(Rows.laid_strings_asciiSpace:DataW Unit)=Lib.tabData .u8 Lib.asciiSpaceTab:=by kernel_rfl
theorem cellsSpace:Tryz.prog.cellsOf 249=256:=by kernel_rfl
theorem cellsU8:Tryz.prog.cellsOf 5=1:=by kernel_rfl
theorem tab_space:Lib.asciiSpaceTab.map (Value.int .u8)=spaceV:=by kernel_rfl
theorem rowSpace:∃ z,((begin Tryz.prog (fun _ _=>0) default).world.heap[0]?).bind Obj.row?=some (z,249):=by
 have h:(((begin Tryz.prog (fun _ _=>0) default).world.heap[0]?).bind Obj.row?).map Prod.snd=some 249:=by kernel_rfl
 obtain ⟨⟨z,t⟩,h1,h2⟩:=Option.map_eq_some_iff.1 h
 simp only at h2
 subst h2
 exact ⟨z,h1⟩
theorem rowMax:((begin Tryz.prog (fun _ _=>0) default).world.heap[1]?).bind Obj.row?=some (#[.int .i64 0],3):=by kernel_rfl
theorem gsizeP:Tryz.prog.globals.size=4:=by kernel_rfl
set_option maxRecDepth 100000 in
theorem p_tab {W : World} (h : laidMetH Tryz.prog pLaid W) : W.var? Tryz.prog "strings.asciiSpace" = some spaceV.toArray := by
 rw [MakeChecks.laidMetH_plain _ _ _ (by kernel_rfl)] at h
 obtain ⟨ps,⟨_,_,_,_,_,_,_,_,_,_,⟨g2,t2,c2,f2,p2,q2,hg2,ht2,hv2,hd2,_,_⟩,_⟩,_⟩:=h
 obtain rfl:=Option.some.inj (gSpace.symm.trans hg2)
 obtain rfl:=Option.some.inj (tSpace.symm.trans ht2)
 rw [laid_space] at hd2
 have e2:=Lib.cells_of_tab Tryz.underlying249 Tryz.underlying5 cellsU8 cellsSpace hd2
 rw [hv2,← tab_space,← e2]
theorem p_start {W:World} (hsh:W.ShapedOpen Tryz.prog) (hL:laidMetH Tryz.prog pLaid W):∃ g0:Nat→Option Blk,(∀ i b,i < Tryz.prog.globals.size→g0 i=some b→(∃ (tail:Array Value) (fr:Nat × Nat),W.heap[i]?=some (.cells (b.cells++tail) b.elem fr))∧∀ v∈b.cells,bnd 0 v)∧∀ ws,G0 (hpW Tryz.prog.globals.size g0 ws):=by
 obtain ⟨z0,h0⟩:=rowSpace
 obtain ⟨c0,hh0,_,_⟩:=hsh.1 _ z0 _ (by rw [gsizeP];decide) h0
 obtain ⟨ds,hd,hds,_⟩:=hsh.1 _ _ _ (by rw [gsizeP];decide) rowMax
 obtain ⟨m,hm⟩:=cell_of_shapedOpen_int hsh (by rw [gsizeP];decide) rowMax rfl (by kernel_rfl) (by kernel_rfl) Tryz.underlying3
 have hn:=p_tab hL
 have e0:c0=spaceV.toArray:=by
  unfold World.var? at hn
  rw [gSpace] at hn
  simpa only [Option.bind_some,hh0,Option.some.injEq] using hn
 have hdv:ds=⟨[.int .i64 m]⟩:=by
  have h1:ds.size=1:=hds
  obtain ⟨l⟩:=ds
  match l,h1 with
  | [v],_ =>
   simp only [World.cell?,hd] at hm
   simp at hm
   rw [hm]
 refine ⟨fun i=>if i=0 then some ⟨⟨spaceV⟩,249⟩ else if i=1 then some ⟨⟨[.int .i64 m]⟩,3⟩ else none,fun i b hi hb=>?_,fun ws=>⟨⟨m,?_⟩,?_⟩⟩
 ·dsimp only at hb
  by_cases q0:i=0
  ·rw [if_pos q0] at hb
   injection hb with hb
   subst hb
   refine ⟨⟨#[],_,by rw [q0,hh0,e0,Array.append_empty]⟩,fun v hv=>?_⟩
   have hv:v∈spaceV:=by simpa using hv
   obtain ⟨s,_,rfl⟩:=List.mem_map.1 hv
   simp
  ·rw [if_neg q0] at hb
   by_cases q1:i=1
   ·rw [if_pos q1] at hb
    injection hb with hb
    subst hb
    refine ⟨⟨#[],_,by rw [q1,hd,hdv,Array.append_empty]⟩,fun v hv=>?_⟩
    have hv:v=.int .i64 m:=by simpa using hv
    rw [hv];simp
   ·rw [if_neg q1] at hb;cases hb
 ·simp [hpW,gsizeP]
 ·simp [hpW,gsizeP]
theorem p_door (os:Os) (args:Array Value):laidMetH Tryz.prog pLaid ((World.doorLaid Tryz.prog 4000 os).forCall (fun _ _=>0) ⟨#[],args,[]⟩).memory :=
 laidMetH_of_parts3 (fuel:=8) (laidMet_of_run' 8 (by kernel_rfl) (by kernel_rfl)) (by kernel_rfl) (by kernel_rfl)
end Go.Proofs.YtgpigfcagppohaaGreatDoor
namespace Go.Proofs.YtgpigfcagppohaaGreatDoor
open Go Go.AH Go.ChangeShapes Go.WideShapes Go.ChangeAt Go.RowKit
set_option maxRecDepth 100000 in
theorem checkScopes_lifted (os:Os) (started:os.Started) (H:Type) (enc:TypeId × Value→H) :
 ReturnsInHanded {} Tryz.checked os 4 .any (fun w args=>(Rows.checkScopesSpec.pre enc Tryz.prog Tryz.f4 [] false w args∧laidMetH Tryz.prog pLaid w)∧sizedMet enc Tryz.prog Tryz.f4 (OpenSpec.ofChange Rows.checkScopesSpec) false w args)
  (Rows.checkScopesSpec.post enc Tryz.prog Tryz.f4 false true false false):=by
 refine handed_and_shaped (C:=Tryz.checked) (X:=fun w _=>laidMetH Tryz.prog pLaid w) (fun _ _ _ hh h=>h.of_heap hh) Tryz.own started (by kernel_rfl) Tryz.func4
  (ChangeSpec.witness_shaped (enc:=enc) (C:=Tryz.checked) (os:=os) (X:=fun w _=>laidMetH Tryz.prog pLaid w) false (World.doorLaid Tryz.prog 4000 os) #[.int .i64 0,.int .i64 0] 8 rfl (World.shaped_of_RefB (by kernel_rfl) (by kernel_rfl)) (by kernel_rfl) (by kernel_rfl) (by kernel_rfl) (p_door os _)) ?_
 intro W base args ds gs before hval0 hW _ hwt0 hL hsh _
 have hval:∀ (j:Nat) t v,Tryz.f4.params[j]?=some t→args[j]?=some v→Value.okWide Tryz.prog W .any base t v:=hval0
 have hW':DataW.Whole enc Tryz.prog Tryz.f4.params.toList Rows.checkScopesSpec.vars false W args.toList ds gs before:=hW
 obtain ⟨p,q,hA0,hV,hbe,hfz,hnd⟩:=hW
 have hA:DataW.TrodAll enc Tryz.prog W 0 (fun _=>true) true Tryz.f4.params.toList args.toList ds p:=hA0
 have hpar:Tryz.f4.params=#[3,3]:=by kernel_rfl
 have hA1:=hA
 rw [hpar] at hA1 hval
 obtain ⟨v0,v1,d0,d1,p0,p1,rfl,rfl,rfl,h0,h1⟩:=trodAll_two hA1
 obtain ⟨rfl,rfl⟩:=trodVars_none hV
 obtain ⟨n,rfl,_,_,_⟩:=open_int Tryz.underlying3 (hval 0 3 v0 rfl rfl) h0
 obtain ⟨m,rfl,_,_,_⟩:=open_int Tryz.underlying3 (hval 1 3 v1 rfl rfl) h1
 obtain ⟨g0,hg0,hgt⟩:=p_start hsh hL
 have hlay:Lay Tryz.prog.globals.size W []:=⟨fun i w b h=>by simp at h,fun i w b h=>by simp at h⟩
 have hG:Tryz.prog.globals.size+([]:List Win).length≤rwM:=Nat.le_of_ble_eq_true (by kernel_rfl)
 have ht:=scopes_tf n m (hpW Tryz.prog.globals.size g0 []) (hgt [])
 have hh:=TF.below ht (fun i b h=>h) (by
  intro x hx
  have hx:x=Value.int .i64 n∨x=.int .i64 m:=by simpa using hx
  rcases hx with rfl|rfl<;>simp) (Lay.hok hlay hG hg0)
 have hargs:(⟨[.int .i64 n,.int .i64 m]⟩:Array Value).map (ren (envW Tryz.prog.globals.size []))=#[.int .i64 n,.int .i64 m]:=by
  simp only [List.map_toArray,List.map_cons,List.map_nil,ren_int]
 rw [hargs] at hh
 refine hh.mono fun e W' ⟨⟨ρ',he⟩,hb⟩=>?_
 have hres:DataW.TrodAll enc Tryz.prog W' W.heap.size (fun _=>false) false [4] [.bool true] [.lit (.bool true)] []:=trodAll_mk1 (shutB (by kernel_rfl))
 refine ⟨.bool true,by simpa using he,[d0,d1],[],before,[],p0++p1,[],hW',hres,?_,rfl,Below.frame hb _,fun h=>by cases h⟩
 refine trodAll_below Tryz.laidOut hb (ts:=Tryz.f4.params.toList) (fun t ht=>?_) (fun x hx=>hW'.lt x (by rw [hbe,List.append_nil];exact hx)) hA
 rw [hpar] at ht
 have ht:t=3:=by simpa using ht
 subst ht
 exact ⟨by kernel_rfl,of_decide_eq_true (by kernel_rfl)⟩
theorem checkScopes_holds:Rows.CheckScopesSaid :=
 OpenClaim.holds_of_wide 4 Tryz.f4 rfl rfl rfl rfl rfl rfl rfl ⟨rfl,rfl,rfl,rfl,rfl⟩ rfl rfl rfl rfl rfl (by kernel_rfl) Tryz.func4 (by kernel_rfl)
  (of_decide_eq_true (by kernel_rfl)) (by unfold Func.isWrapper;rw [if_neg (by decide +kernel)];exact ⟨rfl,rfl⟩)
  (fun os started H enc _=>checkScopes_lifted os started H enc)
theorem checkScopes_card:Rows.CheckScopesCardSaid :=
 Claim7.holds_tied_plain_at .later [] [.listed, .data] true (true, "c63b4bed0d00ffcd55c8b572361a0828c2b8495a8bb903e5b9ffd1234f9a7e55") false
  checkScopes_holds (fun _ h=>by cases h) (by kernel_rfl) (fun _ h=>by cases h) checkScopes_row_tie rfl ⟨rfl,rfl⟩ (by kernel_rfl) rfl
  (fun f fn hf hfn=>by
   obtain rfl:f=4:=Option.some.inj ((show Tryz.prog.funcNamed Rows.checkScopesRow.func=some 4 by kernel_rfl).symm.trans hf) |>.symm
   obtain rfl:fn=Tryz.f4:=(Option.some.inj (Tryz.func4.symm.trans hfn)).symm
   exact ⟨by kernel_rfl,fun j t ht=>by
    rw [show Tryz.f4.params=#[3,3] by kernel_rfl] at ht
    have h3:t=3:=by
     rcases j with _|_|j
     ·simpa using ht.symm
     ·simpa using ht.symm
     ·simp at ht
    subst h3
    exact (show Tryz.prog.wantsStandIn 3=false by kernel_rfl)⟩)
  (by kernel_rfl)
#print axioms checkScopes_card
end Go.Proofs.YtgpigfcagppohaaGreatDoor
