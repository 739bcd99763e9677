/-
  What the functions that the law reaches compute,told by plain data;it holds of programs that pass the check of right form and are light.
-/
import Derived.Test.YtjhloakacicdiaaDoorR21
set_option linter.unusedVariables false
set_option linter.unusedSimpArgs false
namespace Go.Proofs.YtjhloakacicdiaaDoor
open Go Go.AH Go.ChangeShapes Go.WideShapes Go.ChangeAt Go.RowKit
set_option maxRecDepth 100000 in
theorem foldKeeps_lifted (os:Os) (started:os.Started) (H:Type) (enc:TypeId × Value→H) :
 ReturnsInHanded {} Tryd.checked os 7 .any (fun w args=>(Rows.foldKeepsSpec.pre enc Tryd.prog Tryd.f7 [] false w args∧laidMetH Tryd.prog dLaid w)∧sizedMet enc Tryd.prog Tryd.f7 (OpenSpec.ofChange Rows.foldKeepsSpec) false w args)
  (Rows.foldKeepsSpec.post enc Tryd.prog Tryd.f7 false true false false):=by
 refine handed_and_shaped (C:=Tryd.checked) (X:=fun w _=>laidMetH Tryd.prog dLaid w) (fun _ _ _ hh h=>h.of_heap hh) Tryd.own started (by kernel_rfl) Tryd.func7
  (ChangeSpec.witness_shaped (enc:=enc) (C:=Tryd.checked) (os:=os) (X:=fun w _=>laidMetH Tryd.prog dLaid w) false (World.doorLaid Tryd.prog 4000 os) #[.agg #[.slice none 0 0,.slice none 0 0,.int .i64 0,.int .i64 0],.agg #[.slice none 0 0,.slice none 0 0],.agg #[.slice none 0 0,.slice none 0 0]] 8 rfl (World.shaped_of_RefB (by kernel_rfl) (by kernel_rfl)) (by kernel_rfl) (by kernel_rfl) (by kernel_rfl) (d_door os _)) ?_
 intro W base args ds gs before hval0 hW _ hwt0 hL hsh _
 have hval:∀ (j:Nat) t v,Tryd.f7.params[j]?=some t→args[j]?=some v→Value.okWide Tryd.prog W .any base t v:=hval0
 have hwt:(DataW.weightsEach Tryd.prog (Tryd.f7.params.toList++Rows.foldKeepsSpec.plain.varTypes Tryd.prog) (ds++gs)).all (·≤reachBytes)=true:=hwt0
 have hW':DataW.Whole enc Tryd.prog Tryd.f7.params.toList Rows.foldKeepsSpec.vars false W args.toList ds gs before:=hW
 obtain ⟨p,q,hA0,hV,hbe,hfz,hnd⟩:=hW
 have hA:DataW.TrodAll enc Tryd.prog W 0 (fun _=>true) true Tryd.f7.params.toList args.toList ds p:=hA0
 have hpar:Tryd.f7.params=#[25,30,30]:=by kernel_rfl
 have hA1:=hA
 rw [hpar] at hA1 hval hwt
 obtain ⟨v0,v1,v2,d0,d1,d2,p0,p1,p2,rfl,rfl,rfl,h0,h1,h2⟩:=trodAll_three hA1
 obtain ⟨rfl,rfl⟩:=trodVars_none hV
 have hw3:(DataW.weightsEach Tryd.prog [25,30,30] [d0,d1,d2]).all (fun x=>decide (x≤reachBytes))=true:=hwt
 simp only [DataW.weightsEach,List.all_append,Bool.and_eq_true] at hw3
 have hk0:okW (d0.weights Tryd.prog 25):=fun n hn=>by simpa using List.all_eq_true.1 hw3.1 n hn
 have hk1:okW (d1.weights Tryd.prog 30):=fun n hn=>by simpa using List.all_eq_true.1 hw3.2.1 n hn
 have hk2:okW (d2.weights Tryd.prog 30):=fun n hn=>by simpa using List.all_eq_true.1 hw3.2.2.1 n hn
 obtain ⟨cs0,rfl,hz0⟩:=okWide_struct Tryd.underlying25 (hval 0 25 v0 rfl rfl)
 obtain ⟨cs1,rfl,hz1⟩:=okWide_struct Tryd.underlying30 (hval 1 30 v1 rfl rfl)
 obtain ⟨cs2,rfl,hz2⟩:=okWide_struct Tryd.underlying30 (hval 2 30 v2 rfl rfl)
 have t0:TW enc Tryd.prog W 25 cs0.toList:=TW.of h0 hk0
 have t1:TW enc Tryd.prog W 30 cs1.toList:=TW.of h1 hk1
 have t2:TW enc Tryd.prog W 30 cs2.toList:=TW.of h2 hk2
 obtain ⟨g0,hg0,hgt⟩:=d_start hsh hL
 obtain ⟨ws,acs,hlay,hlen,hmap,hbd,a0,aX,rfl,hpr,a1,a2,rfl,hin1,hin2⟩:=D.append (G:=Tryd.prog.globals.size) (g0:=g0) up_progN (D_progN t0) (D.append up_inp (D_input t1) (D_input t2)) [] ⟨fun i w b h=>by simp at h,fun i w b h=>by simp at h⟩
 rw [List.nil_append] at hlay hmap hbd hpr hin1 hin2
 obtain ⟨pr,P1,e1,P2,e2,rfl,hfs,hgs,hok,hnm⟩:=hpr
 obtain ⟨A1,n1,c1,A2,n2,c2,pub,sec,rfl,hi1,hi2⟩:=hin1
 obtain ⟨A3,n3,c3,A4,n4,c4,pub',sec',rfl,hi3,hi4⟩:=hin2
 have hG:Tryd.prog.globals.size+ws.length≤rwM:=Nat.le_trans (Nat.add_le_add_left hlen _) (Nat.le_of_ble_eq_true (by kernel_rfl))
 rw [List.map_append] at hmap
 have hz0':cs0.toList.length=4:=by rw [Array.length_toList,hz0];kernel_rfl
 have hz1':cs1.toList.length=2:=by rw [Array.length_toList,hz1];kernel_rfl
 obtain ⟨m0,mX⟩:=List.append_inj hmap (by rw [List.length_map,hz0'];rfl)
 rw [List.map_append] at mX
 obtain ⟨m1,m2⟩:=List.append_inj mX (by rw [List.length_map,hz1'];rfl)
 have ec0:cs0=⟨(progC pr P1 e1 P2 e2).map (ren (envW Tryd.prog.globals.size ws))⟩:=by rw [m0]
 have ec1:cs1=⟨[Value.slice A1 n1 c1,.slice A2 n2 c2].map (ren (envW Tryd.prog.globals.size ws))⟩:=by rw [m1]
 have ec2:cs2=⟨[Value.slice A3 n3 c3,.slice A4 n4 c4].map (ren (envW Tryd.prog.globals.size ws))⟩:=by rw [m2]
 have hslot:∀ (j i:Nat) (cs:Array Value) (A:Option Addr) (n c:Nat),(#[25,30,30]:Array TypeId)[j]?=some 30→(#[Value.agg cs0,.agg cs1,.agg cs2]:Array Value)[j]?=some (.agg cs)→i < 2→cs[i]?=some (ren (envW Tryd.prog.globals.size ws) (.slice A n c))→∀ a,A=some a→a.spot=none:=by
  rintro j i cs A n c hj hv hi hc a rfl
  exact okWide_slot (cs:=cs) (i:=i) (a:=renAddr (envW Tryd.prog.globals.size ws) a) (n:=n) (c:=renCap (envW Tryd.prog.globals.size ws) a c) ⟨_,Tryd.underlying30⟩ (ts:=[28,28]) (by kernel_rfl) (hval j 30 _ hj hv) (by rw [hc,ren_slice]) (by rcases i with _|_|i<;>first|rfl|omega) (by kernel_rfl:Tryd.prog.underlying 28=some (.slice 5))
 have hs1:=hslot 1 0 cs1 A1 n1 c1 rfl rfl (by decide) (by rw [ec1];simp)
 have hs2:=hslot 1 1 cs1 A2 n2 c2 rfl rfl (by decide) (by rw [ec1];simp)
 have hs3:=hslot 2 0 cs2 A3 n3 c3 rfl rfl (by decide) (by rw [ec2];simp)
 have hs4:=hslot 2 1 cs2 A4 n4 c4 rfl rfl (by decide) (by rw [ec2];simp)
 have hN:(hpW Tryd.prog.globals.size g0 ws).n=rwM:=hpW_n _ _ _
 have hb0:∀ v∈progC pr P1 e1 P2 e2,bnd (hpW Tryd.prog.globals.size g0 ws).n v:=fun v hv=>by rw [hN];exact bnd_mono hG v (hbd v (List.mem_append_left _ hv))
 have hb1:∀ v∈[Value.slice A1 n1 c1,Value.slice A2 n2 c2],bnd (hpW Tryd.prog.globals.size g0 ws).n v:=fun v hv=>by rw [hN];exact bnd_mono hG v (hbd v (List.mem_append_right _ (List.mem_append_left _ hv)))
 have hb2:∀ v∈[Value.slice A3 n3 c3,Value.slice A4 n4 c4],bnd (hpW Tryd.prog.globals.size g0 ws).n v:=fun v hv=>by rw [hN];exact bnd_mono hG v (hbd v (List.mem_append_right _ (List.mem_append_right _ hv)))
 have ht:=FoldKeeps_tf (hpW Tryd.prog.globals.size g0 ws) (hgt ws).1 (hgt ws).2 pr hok hnm P1 e1 P2 e2 hfs hgs A1 n1 c1 A2 n2 c2 A3 n3 c3 A4 n4 c4 pub sec pub' sec' (hi1 hs1) (hi2 hs2) (hi3 hs3) (hi4 hs4)
 have hh:=TF.below ht (fun i b h=>h) (by
  intro x hx
  have hx:x∈[Value.agg ⟨progC pr P1 e1 P2 e2⟩,.agg ⟨[.slice A1 n1 c1,.slice A2 n2 c2]⟩,.agg ⟨[.slice A3 n3 c3,.slice A4 n4 c4]⟩]:=by simpa using hx
  simp only [List.mem_cons,List.not_mem_nil,or_false] at hx
  rcases hx with rfl|rfl|rfl
  ·rw [bnd_agg];exact fun v hv=>hb0 v (by simpa using hv)
  ·rw [bnd_agg];exact fun v hv=>hb1 v (by simpa using hv)
  ·rw [bnd_agg];exact fun v hv=>hb2 v (by simpa using hv)) (Lay.hok hlay hG hg0)
 have hargs:(⟨[.agg ⟨progC pr P1 e1 P2 e2⟩,.agg ⟨[.slice A1 n1 c1,.slice A2 n2 c2]⟩,.agg ⟨[.slice A3 n3 c3,.slice A4 n4 c4]⟩]⟩:Array Value).map (ren (envW Tryd.prog.globals.size ws))=#[.agg cs0,.agg cs1,.agg cs2]:=by
  rw [ec0,ec1,ec2]
  simp only [List.map_toArray,List.map_cons,List.map_nil,ren_agg]
 rw [hargs] at hh
 refine hh.mono fun e W' ⟨⟨ρ',he⟩,hb⟩=>?_
 have hres:DataW.TrodAll enc Tryd.prog W' W.heap.size (fun _=>false) false [4] [.bool true] [.lit (.bool true)] []:=trodAll_mk1 (shutB (by kernel_rfl))
 refine ⟨.bool true,by simpa using he,[d0,d1,d2],[],before,[],p0++p1++p2,[],hW',hres,?_,rfl,Below.frame hb _,fun h=>by cases h⟩
 refine trodAll_below Tryd.laidOut hb (ts:=Tryd.f7.params.toList) (fun t ht=>?_) (fun x hx=>hW'.lt x (by rw [hbe,List.append_nil];exact hx)) hA
 rw [hpar] at ht
 have ht:t=25∨t=30:=by simpa using ht
 rcases ht with rfl|rfl<;>exact ⟨by kernel_rfl,of_decide_eq_true (by kernel_rfl)⟩
theorem foldKeeps_holds:Rows.FoldKeepsSaid :=
 OpenClaim.holds_of_wide 7 Tryd.f7 rfl rfl rfl rfl rfl rfl rfl ⟨rfl,rfl,rfl,rfl,rfl⟩ rfl rfl rfl rfl rfl (by kernel_rfl) Tryd.func7 (by kernel_rfl)
  (of_decide_eq_true (by kernel_rfl)) (by unfold Func.isWrapper;rw [if_neg (by decide +kernel)];exact ⟨rfl,rfl⟩)
  (fun os started H enc _=>foldKeeps_lifted os started H enc)
theorem foldKeeps_card:Rows.FoldKeepsCardSaid :=
 Claim7.holds_tied_plain_at .later [] [.data, .data, .data, .data] true (true, "4301043a9d7481003906c8a6f3ade470f248aed11d6693d68c136400572a01d6") false
  foldKeeps_holds (fun _ h=>by cases h) (by kernel_rfl) (fun _ h=>by cases h) foldKeeps_row_tie rfl ⟨rfl,rfl⟩ (by kernel_rfl) rfl
  (fun f fn hf hfn=>by
   obtain rfl:f=7:=Option.some.inj ((show Tryd.prog.funcNamed Rows.foldKeepsRow.func=some 7 by kernel_rfl).symm.trans hf) |>.symm
   obtain rfl:fn=Tryd.f7:=(Option.some.inj (Tryd.func7.symm.trans hfn)).symm
   exact ⟨by kernel_rfl,fun j t ht=>by
    rw [show Tryd.f7.params=#[25,30,30] by kernel_rfl] at ht
    have h3:t=25∨t=30:=by
     rcases j with _|_|_|j
     ·exact .inl (by simpa using ht.symm)
     ·exact .inr (by simpa using ht.symm)
     ·exact .inr (by simpa using ht.symm)
     ·simp at ht
    rcases h3 with rfl|rfl
    ·exact (show Tryd.prog.wantsStandIn 25=false by kernel_rfl)
    ·exact (show Tryd.prog.wantsStandIn 30=false by kernel_rfl)⟩)
  (by kernel_rfl)
#print axioms foldKeeps_card
end Go.Proofs.YtjhloakacicdiaaDoor
