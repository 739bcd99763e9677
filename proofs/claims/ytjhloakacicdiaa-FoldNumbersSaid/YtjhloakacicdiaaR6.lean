/-
  What the functions that the law reaches compute,told by plain data;it holds of programs that pass the check of right form and are light.
-/
import Derived.Test.YtjhloakacicdiaaR1
import Derived.Test.YtjhloakacicdiaaR3
import Derived.Test.YtjhloakacicdiaaR4
import Derived.Test.YtjhloakacicdiaaR5
import Derived.Test.YtjhloakacicdiaaS2
set_option linter.unusedVariables false
set_option linter.unusedSimpArgs false
namespace Go.Proofs.Ytjhloakacicdiaa
open Go.AH
attribute [local irreducible] W RS
def putB:List Int→Nat→List Int→List Int
  | b,_,[]=>b
  | b,o,v::l=>putB (b.set o v) (o+1) l
theorem putB_len:∀ (l:List Int) (b:List Int) (o:Nat),(putB b o l).length=b.length:=by
  intro l
  induction l with
  | nil=>intro b o;rfl
  | cons v l ih=>intro b o;rw [putB,ih,List.length_set]
theorem putB_bytes:∀ (l:List Int) (b:List Int) (o:Nat),setL (bytesC b) o (bytesC l)=bytesC (putB b o l):=by
  intro l
  induction l with
  | nil=>intro b o;rw [show bytesC ([]:List Int)=[] from rfl,setL_nil];rfl
  | cons v l ih =>
    intro b o
    rw [show bytesC (v::l)=.int .u8 v::bytesC l from rfl,setL_cons,putB,← ih]
    congr 1
    unfold bytesC;rw [List.map_set]
structure DatS where
  b:List Int
  pub:List Int
  sec:List Int
def partLen (x:PartS):Int:=if x.kind=0 then x.data.length else if x.kind=1 then 8 else x.n
def partD (a:Int) (d:DatS) (x:PartS):DatS :=
  if x.kind=0 then { d with b:=putB d.b a.toNat x.data }
  else if x.kind=1 then { d with b:=storeV d.b a.toNat (4194304+16 * x.n) 8 }
  else if x.kind=2 then { d with b:=putB d.b a.toNat (d.pub.take x.n.toNat),pub:=d.pub.drop x.n.toNat }
  else { d with b:=putB d.b a.toNat (d.sec.take x.n.toNat),sec:=d.sec.drop x.n.toNat }
def partsD:List PartS→Int→DatS→DatS
  | [],_,d=>d
  | x::l,a,d=>partsD l (a+partLen x) (partD a d x)
def globsD:List GlobS→DatS→DatS
  | [],d=>d
  | g::l,d=>globsD l (partsD g.parts g.place d)
def dataS (p:ProgS) (pub sec:List Int):List Int:=(globsD p.globals ⟨List.replicate p.data.toNat 0,pub,sec⟩).b
theorem bytes_at {h:Hp} {b off:Nat} {l:List Int} (s:SlAt h (some ⟨b,off,none⟩) 1 l byteR) (hne:0 < l.length):∃ ds e,h.m b=some ⟨⟨ds⟩,e⟩∧off+l.length≤ds.length∧∀ k,k≤l.length→takeV off k ds=bytesC (l.take k):=by
  obtain ⟨b',off',ds,e,he,hb,hl,hv⟩:=s.get (l.length - 1) _ (List.getElem?_eq_getElem (by omega))
  injection he with he
  injection he with e1 e2
  subst e1;subst e2
  refine ⟨ds,e,hb,by omega,fun k hk=>?_⟩
  rw [takeV_eq]
  apply List.ext_getElem?
  intro i
  unfold bytesC
  rw [List.getElem?_take,List.getElem?_map,List.getElem?_take]
  by_cases hi:i < k
  · rw [if_pos hi,if_pos hi,List.getElem?_drop]
    obtain ⟨b2,off2,ds2,e2,he2,hb2,hl2,hv2⟩:=s.get i _ (List.getElem?_eq_getElem (by omega))
    injection he2 with he2
    injection he2 with e1 e2
    subst e1;subst e2
    rw [hb] at hb2
    injection hb2 with hb2
    injection hb2 with hb3
    injection hb3 with hb3
    subst hb3
    have:=take_nth (j:=0) hv2 (v:=.int .u8 l[i]) rfl
    rw [Nat.mul_one,Nat.add_zero] at this
    rw [this,List.getElem?_eq_getElem (by omega)];rfl
  · rw [if_neg hi,if_neg hi];rfl
theorem SlAt.bytes_drop {h:Hp} {b off:Nat} {l:List Int} (s:SlAt h (some ⟨b,off,none⟩) 1 l byteR) (k:Nat):SlAt h (some ⟨b,off+k * 1,none⟩) 1 (l.drop k) byteR:=by
  refine ⟨fun i x hx=>?_⟩
  rw [List.getElem?_drop] at hx
  obtain ⟨b',off',ds,e,he,hb,hl,hv⟩:=s.get _ _ hx
  injection he with he
  injection he with e1 e2
  subst e1;subst e2
  refine ⟨b,off+k * 1,ds,e,rfl,hb,by omega,?_⟩
  rw [show off+k * 1+i * 1=off+(k+i) * 1 by omega];exact hv
structure InRow (h:Hp) (A:Option Addr) (n c:Nat) (l:List Int):Prop where
  at_:SlAt h A 1 l byteR
  len:n=l.length
  le:n≤c
  cap:c < capMark
  nil:A=none→c=0
  spot:∀ a,A=some a→a.spot=none
structure DX where
  b:List Int
  pub:List Int
  sec:List Int
  A1:Option Addr
  n1:Nat
  c1:Nat
  A2:Option Addr
  n2:Nat
  c2:Nat
def DX.d (x:DX):DatS:=⟨x.b,x.pub,x.sec⟩
structure DX.ok (h:Hp) (n:Nat) (x:DX):Prop where
  b:x.b.length=n
  pub:InRow h x.A1 x.n1 x.c1 x.pub
  sec:InRow h x.A2 x.n2 x.c2 x.sec
def dxL (x:DX) (_:Nat→Nat):List (Nat × Option Blk):=[(0,some ⟨⟨[.slice x.A1 x.n1 x.c1,.slice x.A2 x.n2 x.c2]⟩,30⟩),(1,some ⟨⟨bytesC x.b⟩,5⟩)]
theorem bytes_one (l:List Int):(bytesC l).all (·.oneCell')=true:=by
  unfold bytesC;rw [List.all_map,List.all_eq_true];intro _ _;rfl
theorem InRow.drop {h:Hp} {b off n c k:Nat} {l:List Int} (r:InRow h (some ⟨b,off,none⟩) n c l) (hk:k≤n):InRow h (some ⟨b,if c=k then off else off+k * 1,none⟩) (n - k) (c - k) (l.drop k):=by
  have h1:=r.len
  have h2:=r.le
  have h3:=r.cap
  refine ⟨?_,by rw [List.length_drop];omega,by omega,by omega,(fun h=>by cases h),fun a ha=>by injection ha with ha;rw [← ha]⟩
  split
  · rw [List.drop_eq_nil_of_le (by omega)];exact SlAt.nil
  · exact r.at_.bytes_drop k
theorem bytes_rep (n:Nat):repL [.int .u8 0] n=bytesC (List.replicate n 0):=by
  rw [repL_one];unfold bytesC;simp
set_option maxHeartbeats 8000000 in
set_option maxRecDepth 100000 in
theorem Data_tf (p:ProgS) (hr:p.globals.all (placedS p)=true) (hnf:p.funcs.length≤1000000) (hgl:p.globals.length≤1000000) (hpl:∀ g∈p.globals,g.parts.length≤1000000) (n:Nat) (hn:p.data=(n:Int)) (hn2:n≤1000000) (pb:Nat) (pe:TypeId) (P1:Option Addr) (d1:Nat) (P2:Option Addr) (d2:Nat) (h:Hp) (hp:ProgAt h pb p pe P1 d1 P2 d2)
    (A1:Option Addr) (n1 c1:Nat) (A2:Option Addr) (n2 c2:Nat) (pub sec:List Int) (hi1:InRow h A1 n1 c1 pub) (hi2:InRow h A2 n2 c2 sec) :
    TF Try.prog 34 ⟨[.pointer (some ⟨pb,0,none⟩),.agg ⟨[.slice A1 n1 c1,.slice A2 n2 c2]⟩]⟩ h (.slice (some ⟨h.n,0,none⟩) n n) (h.push ⟨⟨bytesC (dataS p pub sec)⟩,5⟩):=by
  refine TF.dom fun hd=>?_
  have hpn:=hd _ _ hp.m
  refine TF.ends (fn:=Try.f34) (c:=(Try.f34.body.getD .skip)) (Q:=RowQ (fun _=>bytesC (dataS p pub sec)) 5 n n h) Try.func34 (by kernel_rfl) Try.ntmps34 (by kernel_rfl) ?_ (row_end fun v hv=>by unfold bytesC at hv;obtain ⟨_,_,rfl⟩:=List.mem_map.1 hv;simp)
  conv=>arg 2;whnf
  repeat (first|((with_reducible apply RS.load1B);(iterate 3 exact rfl);exact hp.m;exact hpn;exact rfl)|((with_reducible apply (RS.makeSlice (n:=n) (kx:=.i64) (ky:=.i64) (cs:=bytesC (List.replicate n 0))));(iterate 2 exact rfl);exact (show _=some (Value.int IntKind.i64 (n:Int)) from congrArg (fun z=>some (Value.int IntKind.i64 z)) hn);exact (show _=some (Value.int IntKind.i64 (n:Int)) from congrArg (fun z=>some (Value.int IntKind.i64 z)) hn);(iterate 2 exact rfl);(constructor<;>omega);exact bytes_rep n)|((with_reducible first|apply RS.nilCheck|apply RS.move|apply RS.assign|apply RS.lenSl|apply RS.fieldAddr|apply RS.box);iterate 3 exact rfl)|((with_reducible apply RS.nil);exact mixed;kernel_rfl)|(with_reducible first|apply W.seq|apply W.block|apply thenK_n)|((with_reducible apply W.reg);kernel_rfl))
  refine W.loop (X:=Nat × DX) (fun π y=>[(3,.pointer (some ⟨π 0,0,none⟩)),(5,.slice (some ⟨π 1,0,none⟩) n n),(21,.slice P2 p.globals.length d2),(22,.int .i64 p.globals.length),(23,.int .i64 y.1)]) (fun _=>h) (fun π y=>dxL y.2 π) (fun y=>y.1≤p.globals.length∧y.2.ok h n∧globsD (p.globals.drop y.1) y.2.d=globsD p.globals ⟨List.replicate n 0,pub,sec⟩) (fun y=>p.globals.length - y.1) [0,1] (0,⟨List.replicate n 0,pub,sec,A1,n1,c1,A2,n2,c2⟩) ⟨Nat.zero_le _,⟨List.length_replicate,hi1,hi2⟩,rfl⟩ (by (refine FitL.mk ?_ ?_ ?_ ?_<;>(repeat' (first|exact trivial|exact rfl|(refine AllB.opt rfl rfl ?_)|apply And.intro));done)) ?_
  rintro π ⟨gi,dx⟩ ⟨hgi,hdx,hD⟩
  dsimp only at hgi hdx hD ⊢
  by_cases hlt:gi < p.globals.length
  · obtain ⟨g,hg⟩:∃ g,p.globals[gi]?=some g:=⟨_,List.getElem?_eq_getElem hlt⟩
    obtain ⟨gb,go,gcs,ge,rfl,hG,hGl,GA,gc,hGv,hGp⟩:=hp.gs.get _ _ hg
    have hGn:=hd _ _ hG
    have hgm:=List.mem_of_getElem? hg
    have hgpl:=hpl g hgm
    have hpla:=List.all_eq_true.1 hr g hgm
    unfold placedS at hpla
    simp only [Bool.and_eq_true,decide_eq_true_eq] at hpla
    obtain ⟨⟨⟨⟨g1,g2⟩,g3⟩,g4⟩,g5⟩:=hpla
    rw [drop_get hg,globsD] at hD
    repeat (first|((with_reducible apply RS.indexAddrS);(iterate 5 exact rfl);omega)|((with_reducible apply RS.loadNB);(iterate 3 exact rfl);exact hG;exact hGn;exact hGl;exact hGv)|((with_reducible first|apply RS.move|apply RS.assign|apply RS.lenSl|apply RS.fieldAddr);iterate 3 exact rfl)|((with_reducible apply RS.cmpT);(iterate 4 exact rfl);(simp only [cmpP];omega))|((with_reducible apply RS.load1);iterate 6 exact rfl)|((with_reducible apply RS.store);(iterate 5 exact rfl);exact Nat.le_of_ble_eq_true rfl;iterate 3 exact rfl)|((with_reducible apply RS.alloc);iterate 2 exact rfl)|((with_reducible apply RS.nil);exact mixed;kernel_rfl)|(with_reducible first|apply W.seq|apply W.block|apply W.skip|apply thenK_n)|((with_reducible apply W.reg);kernel_rfl)|((with_reducible apply W.condT);kernel_rfl;exact rfl))
    refine W.loop (X:=Nat × Int × Int × DX) (fun π y=>[(3,.pointer (some ⟨π 0,0,none⟩)),(5,.slice (some ⟨π 1,0,none⟩) n n),(21,.slice (some ⟨gb,go,none⟩) p.globals.length d2),(22,.int .i64 p.globals.length),(23,.int .i64 gi),(8,.int .i64 y.2.1),(30,.slice GA g.parts.length gc),(31,.int .i64 g.parts.length),(32,.int .i64 y.1)]) (fun _=>h) (fun π y=>dxL y.2.2.2 π) (fun y=>y.1≤g.parts.length∧y.2.2.2.ok h n∧partsS p.funcs.length (g.parts.drop y.1) y.2.2.1=true∧0≤y.2.1∧y.2.1+y.2.2.1≤n∧globsD (p.globals.drop (gi+1)) (partsD (g.parts.drop y.1) y.2.1 y.2.2.2.d)=globsD p.globals ⟨List.replicate n 0,pub,sec⟩) (fun y=>g.parts.length - y.1) [0,1] (0,g.place,g.size,dx) ⟨Nat.zero_le _,hdx,g5,g1,by show g.place+g.size≤(n:Int);omega,hD⟩ (by (refine FitL.mk ?_ ?_ ?_ ?_<;>(repeat' (first|exact trivial|exact rfl|(refine AllB.opt rfl rfl ?_)|apply And.intro));done)) ?_
    generalize globsD p.globals ⟨List.replicate n 0,pub,sec⟩=R
    rintro π2 ⟨i,a,left,⟨b,pub,sec,A1,n1,c1,A2,n2,c2⟩⟩ ⟨hi,⟨hbl,hpub,hsec⟩,hP,ha0,hal,hD⟩
    dsimp only at hi hbl hpub hsec hP ha0 hal hD ⊢
    by_cases hlt2:i < g.parts.length
    · obtain ⟨x,hx⟩:∃ x,g.parts[i]?=some x:=⟨_,List.getElem?_eq_getElem hlt2⟩
      obtain ⟨gpb,gpo,qcs,qe,rfl,hQ,hQl,XA,xc,hQv,hXd⟩:=hGp.get _ _ hx
      have hQn:=hd _ _ hQ
      rw [drop_get hx,partsD] at hD
      rw [drop_get hx,partsS] at hP
      have ha:a=(a.toNat:Int):=by omega
      by_cases hk0:x.kind=0
      · have hpn':partN p.funcs.length x=some (x.data.length:Int):=by unfold partN;rw [if_pos hk0]
        rw [hpn'] at hP
        dsimp only at hP
        have hle:¬ ((x.data.length:Int) < 0∨left < x.data.length):=fun hc=>by rw [if_pos hc] at hP;cases hP
        rw [if_neg hle] at hP
        have hpl:partLen x=x.data.length:=by unfold partLen;rw [if_pos hk0]
        rw [hpl] at hD
        unfold partD at hD
        rw [if_pos hk0] at hD
        by_cases hne:x.data.length=0
        · have e0:x.data=[]:=List.eq_nil_of_length_eq_zero hne
          rw [e0] at hD
          repeat (first|((with_reducible apply RS.indexAddrS);(iterate 5 exact rfl);omega)|((with_reducible apply RS.loadNB);(iterate 3 exact rfl);exact hQ;exact hQn;exact hQl;exact hQv)|((with_reducible apply (RS.sliceSL (b:=π2 1) (L:=a.toNat) (H:=n) (off':=(if n=a.toNat then 0 else 0+a.toNat * 1))));(iterate 3 exact rfl);exact ⟨_,_,rfl,ha⟩;exact rfl;omega;exact Nat.le_refl _;(show _ < 18446744073709551616;omega);exact rfl)|((with_reducible apply RS.copy0);(iterate 4 exact rfl);(first|omega|(dsimp only;omega)))|((with_reducible first|apply RS.move|apply RS.assign|apply RS.fieldAddr);iterate 3 exact rfl)|((with_reducible apply RS.cmpT);(iterate 4 exact rfl);(simp only [cmpP];omega))|((with_reducible apply RS.add1);(iterate 4 exact rfl);omega)|((with_reducible apply RS.binFit);(iterate 5 exact rfl);omega)|((with_reducible apply RS.load1);iterate 6 exact rfl)|((with_reducible apply RS.store);(iterate 5 exact rfl);exact Nat.le_of_ble_eq_true rfl;iterate 3 exact rfl)|((with_reducible apply RS.alloc);iterate 2 exact rfl)|((with_reducible apply RS.nil);exact mixed;kernel_rfl)|(with_reducible first|apply W.seq|apply W.block|apply W.skip|apply thenK_n|apply blockK_n)|((with_reducible apply W.reg);kernel_rfl)|((with_reducible apply W.condT);kernel_rfl;exact rfl))
          refine roundK_n (i+1,a+((0:Nat):Int),left - x.data.length,⟨b,pub,sec,A1,n1,c1,A2,n2,c2⟩) [0,1] rfl rfl ⟨by show i+1≤_;omega,?_,hP,by dsimp only;omega,by dsimp only;omega,?_⟩ (by show _ - (i+1) < _ - i;omega) (by (refine FitL.mk ?_ ?_ ?_ ?_<;>(repeat' (first|exact trivial|exact rfl|(refine AllB.opt rfl rfl ?_)|apply And.intro));done))
          · exact ⟨hbl,hpub,hsec⟩
          · simpa [putB] using hD
        · have hXd':=hXd
          obtain ⟨_,_,_,_,hXA,_⟩:=hXd'.get 0 _ (List.getElem?_eq_getElem (by omega))
          subst hXA
          obtain ⟨ds,de,hQ2,hQ2l,htk⟩:=bytes_at hXd (by omega)
          have hQ2n:=hd _ _ hQ2
          have hmin:min x.data.length (n - a.toNat)=x.data.length:=by omega
          have hcp:∀ o,setL (bytesC b) a.toNat (takeV o (min x.data.length (n - a.toNat) * 1) ds)=setL (bytesC b) a.toNat (takeV o x.data.length ds):=fun o=>by rw [hmin,Nat.mul_one]
          repeat (first|((with_reducible apply RS.indexAddrS);(iterate 5 exact rfl);omega)|((with_reducible apply RS.loadNB);(iterate 3 exact rfl);exact hQ;exact hQn;exact hQl;exact hQv)|((with_reducible apply (RS.sliceSL (b:=π2 1) (L:=a.toNat) (H:=n) (off':=a.toNat)));(iterate 3 exact rfl);exact ⟨_,_,rfl,ha⟩;exact rfl;omega;exact Nat.le_refl _;(show _ < 18446744073709551616;omega);(rw [if_neg (by omega)];omega))|((with_reducible apply (RS.copyLB (i:=1) (cs':=bytesC (putB b a.toNat x.data))));(iterate 6 exact rfl);exact hQ2;exact hQ2n;(unfold bytesC;rw [List.length_map];dsimp only;omega);(first|omega|(dsimp only;omega));(rw [hmin,Nat.mul_one,htk _ (Nat.le_refl _)];exact bytes_one _);(refine (hcp _).trans ?_;rw [htk _ (Nat.le_refl _),List.take_length,putB_bytes]))|((with_reducible first|apply RS.move|apply RS.assign|apply RS.fieldAddr);iterate 3 exact rfl)|((with_reducible apply RS.cmpT);(iterate 4 exact rfl);(simp only [cmpP];omega))|((with_reducible apply RS.add1);(iterate 4 exact rfl);omega)|((with_reducible apply RS.binFit);(iterate 5 exact rfl);omega)|((with_reducible apply RS.load1);iterate 6 exact rfl)|((with_reducible apply RS.store);(iterate 5 exact rfl);exact Nat.le_of_ble_eq_true rfl;iterate 3 exact rfl)|((with_reducible apply RS.alloc);iterate 2 exact rfl)|((with_reducible apply RS.nil);exact mixed;kernel_rfl)|(with_reducible first|apply W.seq|apply W.block|apply W.skip|apply thenK_n|apply blockK_n)|((with_reducible apply W.reg);kernel_rfl)|((with_reducible apply W.condT);kernel_rfl;exact rfl))
          refine roundK_n (i+1,a+((min x.data.length (n - a.toNat):Nat):Int),left - x.data.length,⟨putB b a.toNat x.data,pub,sec,A1,n1,c1,A2,n2,c2⟩) [0,1] rfl rfl ⟨by show i+1≤_;omega,?_,hP,by dsimp only;omega,by dsimp only;omega,?_⟩ (by show _ - (i+1) < _ - i;omega) (by (refine FitL.mk ?_ ?_ ?_ ?_<;>(repeat' (first|exact trivial|exact rfl|(refine AllB.opt rfl rfl ?_)|apply And.intro));done))
          · exact ⟨(putB_len _ _ _).trans hbl,hpub,hsec⟩
          · rw [hmin];exact hD
      by_cases hk1:x.kind=1
      · by_cases hr2:x.n < 0∨(p.funcs.length:Int)≤x.n
        · have hpn':partN p.funcs.length x=none:=by unfold partN;rw [if_neg hk0,if_pos hk1,if_pos hr2]
          rw [hpn'] at hP;cases hP
        have hpn':partN p.funcs.length x=some 8:=by unfold partN;rw [if_neg hk0,if_pos hk1,if_neg hr2]
        rw [hpn'] at hP
        dsimp only at hP
        have hle:¬ ((8:Int) < 0∨left < 8):=fun hc=>by rw [if_pos hc] at hP;cases hP
        rw [if_neg hle] at hP
        have hpl:partLen x=8:=by unfold partLen;rw [if_neg hk0,if_pos hk1]
        rw [hpl] at hD
        unfold partD at hD
        rw [if_neg hk0,if_pos hk1] at hD
        repeat (first|((with_reducible apply RS.indexAddrS);(iterate 5 exact rfl);omega)|((with_reducible apply RS.loadNB);(iterate 3 exact rfl);exact hQ;exact hQn;exact hQl;exact hQv)|((with_reducible first|apply RS.move|apply RS.assign|apply RS.fieldAddr);iterate 3 exact rfl)|((with_reducible apply RS.cmpT);(iterate 4 exact rfl);(simp only [cmpP];omega))|((with_reducible apply RS.cmpF);(iterate 4 exact rfl);(simp only [cmpN];omega))|((with_reducible apply RS.binFit);(iterate 5 exact rfl);omega)|((with_reducible apply RS.load1);iterate 6 exact rfl)|((with_reducible apply RS.store);(iterate 5 exact rfl);exact Nat.le_of_ble_eq_true rfl;iterate 3 exact rfl)|((with_reducible apply RS.alloc);iterate 2 exact rfl)|((with_reducible apply RS.nil);exact mixed;kernel_rfl)|(with_reducible first|apply W.seq|apply W.block|apply W.skip|apply thenK_n)|((with_reducible apply W.reg);kernel_rfl)|((with_reducible apply W.condT);kernel_rfl;exact rfl)|((with_reducible apply W.condF);kernel_rfl;exact rfl))
        refine W.loop (X:=Nat) (fun π j=>[(3,.pointer (some ⟨π 0,0,none⟩)),(5,.slice (some ⟨π 1,0,none⟩) n n),(21,.slice (some ⟨gb,go,none⟩) p.globals.length d2),(22,.int .i64 p.globals.length),(23,.int .i64 gi),(8,.int .i64 a),(30,.slice (some ⟨gpb,gpo,none⟩) g.parts.length gc),(31,.int .i64 g.parts.length),(32,.int .i64 i),(11,.int .i64 (4194304+16 * x.n)),(54,.int .i64 j)]) (fun _=>h) (fun π j=>dxL ⟨storeV b a.toNat (4194304+16 * x.n) j,pub,sec,A1,n1,c1,A2,n2,c2⟩ π) (fun j=>j≤8) (fun j=>8 - j) [0,1] 0 (Nat.zero_le _) (by (refine FitL.mk ?_ ?_ ?_ ?_<;>(repeat' (first|exact trivial|exact rfl|(refine AllB.opt rfl rfl ?_)|apply And.intro));done)) ?_
        intro π3 j hj
        dsimp only at hj ⊢
        by_cases hj8:j < 8
        · have hset:setL (bytesC (storeV b a.toNat (4194304+16 * x.n) j)) (0+(a.toNat+j) * 1) [.int .u8 (storeByte (4194304+16 * x.n) j)]=bytesC (storeV b a.toNat (4194304+16 * x.n) (j+1)):=by
            rw [Nat.zero_add,Nat.mul_one];exact setL_bytes _ _ _
          have hfit:0+(a.toNat+j) * 1+1≤(bytesC (storeV b a.toNat (4194304+16 * x.n) j)).length:=by
            unfold bytesC;rw [List.length_map,storeV_len];omega
          repeat (first|((with_reducible apply RS.shr);(iterate 4 exact rfl);omega)|((with_reducible apply (RS.indexAddrS (n:=a.toNat+j)));(iterate 4 exact rfl);(first|omega|(dsimp only;omega));omega)|((with_reducible apply RS.store);(iterate 5 exact rfl);exact hfit;(iterate 2 exact rfl);exact hset)|((with_reducible first|apply RS.move|apply RS.assign|apply RS.convI);iterate 3 exact rfl)|((with_reducible apply RS.cmpT);(iterate 4 exact rfl);(simp only [cmpP];omega))|((with_reducible apply RS.add1);(iterate 4 exact rfl);omega)|((with_reducible apply RS.binFit);(iterate 5 exact rfl);omega)|((with_reducible apply RS.nil);exact mixed;kernel_rfl)|(with_reducible first|apply W.seq|apply W.block|apply W.skip|apply thenK_n|apply blockK_n)|((with_reducible apply W.reg);kernel_rfl)|((with_reducible apply W.condT);kernel_rfl;exact rfl))
          exact roundK_n (j+1) [0,1] rfl rfl (by show j+1≤8;omega) (by show 8 - (j+1) < 8 - j;omega) (by (refine FitL.mk ?_ ?_ ?_ ?_<;>(repeat' (first|exact trivial|exact rfl|(refine AllB.opt rfl rfl ?_)|apply And.intro));done))
        · have hj9:j=8:=by omega
          subst hj9
          repeat (first|((with_reducible first|apply RS.move|apply RS.assign);iterate 3 exact rfl)|((with_reducible apply RS.cmpF);(iterate 4 exact rfl);(simp only [cmpN];omega))|((with_reducible apply RS.add1);(iterate 4 exact rfl);omega)|((with_reducible apply RS.binFit);(iterate 5 exact rfl);omega)|((with_reducible apply RS.nil);exact mixed;kernel_rfl)|(with_reducible first|apply W.seq|apply W.exit|apply thenK_n|apply thenK_e|apply blockK_n|apply roundK_e)|((with_reducible apply W.reg);kernel_rfl)|((with_reducible apply W.condF);kernel_rfl;exact rfl)|((with_reducible apply blockK_hit);exact rfl))
          refine roundK_n (i+1,a+8,left - 8,⟨storeV b a.toNat (4194304+16 * x.n) 8,pub,sec,A1,n1,c1,A2,n2,c2⟩) [0,1] rfl rfl ⟨by show i+1≤_;omega,?_,hP,by dsimp only;omega,by dsimp only;omega,?_⟩ (by show _ - (i+1) < _ - i;omega) (by (refine FitL.mk ?_ ?_ ?_ ?_<;>(repeat' (first|exact trivial|exact rfl|(refine AllB.opt rfl rfl ?_)|apply And.intro));done))
          · exact ⟨(storeV_len _ _ _ _).trans hbl,hpub,hsec⟩
          · exact hD
      by_cases hk2:x.kind=2
      · have hpn':partN p.funcs.length x=some x.n:=by unfold partN;rw [if_neg (by omega),if_neg (by omega),if_pos (by omega)]
        rw [hpn'] at hP
        dsimp only at hP
        have hle:¬ (x.n < 0∨left < x.n):=fun hc=>by rw [if_pos hc] at hP;cases hP
        rw [if_neg hle] at hP
        obtain ⟨m,hm⟩:∃ m:Nat,x.n=m:=⟨x.n.toNat,by omega⟩
        have hpl:partLen x=x.n:=by unfold partLen;rw [if_neg (by omega),if_neg (by omega)]
        rw [hpl] at hD
        unfold partD at hD
        rw [if_neg (by omega),if_neg (by omega),if_pos (by omega)] at hD
        rw [hm,Int.toNat_natCast] at hD
        rw [← hm] at hD
        by_cases hk0:min n1 m=0
        · have e1:pub.take m=[]:=by
            have:=hpub.len
            by_cases h0:m=0
            · rw [h0];rfl
            · rw [List.eq_nil_of_length_eq_zero (l:=pub) (by omega)];simp
          have e2:pub.drop m=pub:=by
            have:=hpub.len
            by_cases h0:m=0
            · rw [h0];rfl
            · rw [List.eq_nil_of_length_eq_zero (l:=pub) (by omega)];simp
          simp only [DX.d,e1,e2,putB] at hD
          cases hA:A1 with
          | none =>
            have hc0:=hpub.nil hA
            have hn0:n1=0:=by have:=hpub.le;omega
            subst hA;subst hc0;subst hn0
            repeat (first|((with_reducible apply RS.indexAddrS);(iterate 5 exact rfl);omega)|((with_reducible apply RS.loadNB);(iterate 3 exact rfl);exact hQ;exact hQn;exact hQl;exact hQv)|((with_reducible apply (RS.sliceSL (b:=π2 1) (L:=a.toNat) (H:=a.toNat+m) (off':=(if n=a.toNat then 0 else 0+a.toNat * 1))));(iterate 3 exact rfl);exact ⟨_,_,rfl,ha⟩;exact ⟨_,_,rfl,(show a+x.n=_ by omega)⟩;omega;omega;(show _ < 18446744073709551616;omega);exact rfl)|((with_reducible apply RS.copy0);(iterate 4 exact rfl);(first|omega|(dsimp only;omega)))|((with_reducible apply RS.sliceNil);(iterate 3 exact rfl);exact ⟨_,_,rfl,rfl⟩;exact rfl)|((with_reducible first|apply RS.move|apply RS.assign|apply RS.fieldAddr);iterate 3 exact rfl)|((with_reducible apply RS.cmpT);(iterate 4 exact rfl);(simp only [cmpP];omega))|((with_reducible apply RS.cmpF);(iterate 4 exact rfl);(simp only [cmpN];omega))|((with_reducible apply RS.add1);(iterate 4 exact rfl);omega)|((with_reducible apply RS.binFit);(iterate 5 exact rfl);omega)|((with_reducible apply RS.load1);iterate 6 exact rfl)|((with_reducible apply RS.store);(iterate 5 exact rfl);exact Nat.le_of_ble_eq_true rfl;iterate 3 exact rfl)|((with_reducible apply RS.alloc);iterate 2 exact rfl)|((with_reducible apply RS.nil);exact mixed;kernel_rfl)|(with_reducible first|apply W.seq|apply W.block|apply W.skip|apply thenK_n|apply blockK_n)|((with_reducible apply W.reg);kernel_rfl)|((with_reducible apply W.condT);kernel_rfl;exact rfl)|((with_reducible apply W.condF);kernel_rfl;exact rfl))
            refine roundK_n (i+1,a+x.n,left - x.n,⟨b,pub,sec,none,0,0,A2,n2,c2⟩) [0,1] rfl rfl ⟨by show i+1≤_;omega,?_,hP,by dsimp only;omega,by dsimp only;omega,?_⟩ (by show _ - (i+1) < _ - i;omega) (by (refine FitL.mk ?_ ?_ ?_ ?_<;>(repeat' (first|exact trivial|exact rfl|(refine AllB.opt rfl rfl ?_)|apply And.intro));done))
            · exact ⟨hbl,hpub,hsec⟩
            · exact hD
          | some q =>
            have hq:=hpub.spot q hA
            obtain ⟨qb,qo,qs⟩:=q
            dsimp only at hq
            subst hq;subst hA
            have hle2:=hpub.le
            have hcm:=hpub.cap
            repeat (first|((with_reducible apply RS.indexAddrS);(iterate 5 exact rfl);omega)|((with_reducible apply RS.loadNB);(iterate 3 exact rfl);exact hQ;exact hQn;exact hQl;exact hQv)|((with_reducible apply (RS.sliceSL (b:=π2 1) (L:=a.toNat) (H:=a.toNat+m) (off':=(if n=a.toNat then 0 else 0+a.toNat * 1))));(iterate 3 exact rfl);exact ⟨_,_,rfl,ha⟩;exact ⟨_,_,rfl,(show a+x.n=_ by omega)⟩;omega;omega;(show _ < 18446744073709551616;omega);exact rfl)|((with_reducible apply RS.copy0);(iterate 4 exact rfl);(first|omega|(dsimp only;omega)))|((with_reducible apply (RS.sliceSL (b:=qb) (L:=0) (H:=n1) (off':=qo)));(iterate 3 exact rfl);exact ⟨_,_,rfl,rfl⟩;exact rfl;omega;omega;exact hcm;(split<;>omega))|((with_reducible first|apply RS.move|apply RS.assign|apply RS.fieldAddr);iterate 3 exact rfl)|((with_reducible apply RS.cmpT);(iterate 4 exact rfl);(simp only [cmpP];omega))|((with_reducible apply RS.cmpF);(iterate 4 exact rfl);(simp only [cmpN];omega))|((with_reducible apply RS.add1);(iterate 4 exact rfl);omega)|((with_reducible apply RS.binFit);(iterate 5 exact rfl);omega)|((with_reducible apply RS.load1);iterate 6 exact rfl)|((with_reducible apply RS.store);(iterate 5 exact rfl);exact Nat.le_of_ble_eq_true rfl;iterate 3 exact rfl)|((with_reducible apply RS.alloc);iterate 2 exact rfl)|((with_reducible apply RS.nil);exact mixed;kernel_rfl)|(with_reducible first|apply W.seq|apply W.block|apply W.skip|apply thenK_n|apply blockK_n)|((with_reducible apply W.reg);kernel_rfl)|((with_reducible apply W.condT);kernel_rfl;exact rfl)|((with_reducible apply W.condF);kernel_rfl;exact rfl))
            refine roundK_n (i+1,a+x.n,left - x.n,⟨b,pub,sec,some ⟨qb,qo,none⟩,n1,c1,A2,n2,c2⟩) [0,1] rfl rfl ⟨by show i+1≤_;omega,?_,hP,by dsimp only;omega,by dsimp only;omega,?_⟩ (by show _ - (i+1) < _ - i;omega) (by (refine FitL.mk ?_ ?_ ?_ ?_<;>(repeat' (first|exact trivial|exact rfl|(refine AllB.opt rfl rfl ?_)|apply And.intro));done))
            · exact ⟨hbl,hpub,hsec⟩
            · exact hD
        · have hn0:0 < pub.length:=by have:=hpub.len;omega
          have hle2:=hpub.le
          have hcm:=hpub.cap
          have hnl:=hpub.len
          cases hA:A1 with
          | none=>have:=hpub.nil hA;omega
          | some q =>
            have hq:=hpub.spot q hA
            obtain ⟨qb,qo,qs⟩:=q
            dsimp only at hq
            subst hq;subst hA
            obtain ⟨ds,de,hQ2,hQ2l,htk⟩:=bytes_at hpub.at_ hn0
            have hQ2n:=hd _ _ hQ2
            have e3:pub.take (min n1 (a.toNat+m - a.toNat))=pub.take m:=by
              rw [List.take_eq_take_iff];omega
            have e4:pub.drop (min n1 (a.toNat+m - a.toNat))=pub.drop m:=by
              by_cases h0:m≤n1
              · rw [show min n1 (a.toNat+m - a.toNat)=m by omega]
              · rw [List.drop_eq_nil_of_le (by omega),List.drop_eq_nil_of_le (by omega)]
            have hcp:setL (bytesC b) a.toNat (takeV qo ((min n1 (a.toNat+m - a.toNat)) * 1) ds)=bytesC (putB b a.toNat (pub.take m)):=by
              rw [Nat.mul_one,htk _ (by omega),e3,putB_bytes]
            repeat (first|((with_reducible apply RS.indexAddrS);(iterate 5 exact rfl);omega)|((with_reducible apply RS.loadNB);(iterate 3 exact rfl);exact hQ;exact hQn;exact hQl;exact hQv)|((with_reducible apply (RS.sliceSL (b:=π2 1) (L:=a.toNat) (H:=a.toNat+m) (off':=a.toNat)));(iterate 3 exact rfl);exact ⟨_,_,rfl,ha⟩;exact ⟨_,_,rfl,(show a+x.n=_ by omega)⟩;omega;omega;(show _ < 18446744073709551616;omega);(rw [if_neg (by omega)];omega))|((with_reducible apply (RS.copyLB (i:=1) (cs':=bytesC (putB b a.toNat (pub.take m)))));(iterate 6 exact rfl);exact hQ2;exact hQ2n;(unfold bytesC;rw [List.length_map];dsimp only;omega);(first|omega|(dsimp only;omega));(dsimp only;rw [Nat.mul_one,htk _ (by omega)];exact bytes_one _);exact hcp)|((with_reducible apply (RS.sliceSL (b:=qb) (L:=min n1 (a.toNat+m - a.toNat)) (H:=n1) (off':=(if c1=min n1 (a.toNat+m - a.toNat) then qo else qo+(min n1 (a.toNat+m - a.toNat)) * 1))));(iterate 3 exact rfl);exact ⟨_,_,rfl,rfl⟩;exact rfl;omega;omega;exact hcm;exact rfl)|((with_reducible first|apply RS.move|apply RS.assign|apply RS.fieldAddr);iterate 3 exact rfl)|((with_reducible apply RS.cmpT);(iterate 4 exact rfl);(simp only [cmpP];omega))|((with_reducible apply RS.cmpF);(iterate 4 exact rfl);(simp only [cmpN];omega))|((with_reducible apply RS.add1);(iterate 4 exact rfl);omega)|((with_reducible apply RS.binFit);(iterate 5 exact rfl);omega)|((with_reducible apply RS.load1);iterate 6 exact rfl)|((with_reducible apply RS.store);(iterate 5 exact rfl);exact Nat.le_of_ble_eq_true rfl;iterate 3 exact rfl)|((with_reducible apply RS.alloc);iterate 2 exact rfl)|((with_reducible apply RS.nil);exact mixed;kernel_rfl)|(with_reducible first|apply W.seq|apply W.block|apply W.skip|apply thenK_n|apply blockK_n)|((with_reducible apply W.reg);kernel_rfl)|((with_reducible apply W.condT);kernel_rfl;exact rfl)|((with_reducible apply W.condF);kernel_rfl;exact rfl))
            refine roundK_n (i+1,a+x.n,left - x.n,⟨putB b a.toNat (pub.take m),pub.drop (min n1 (a.toNat+m - a.toNat)),sec,some ⟨qb,if c1=min n1 (a.toNat+m - a.toNat) then qo else qo+(min n1 (a.toNat+m - a.toNat)) * 1,none⟩,n1 - (min n1 (a.toNat+m - a.toNat)),c1 - (min n1 (a.toNat+m - a.toNat)),A2,n2,c2⟩) [0,1] rfl rfl ⟨by show i+1≤_;omega,?_,hP,by dsimp only;omega,by dsimp only;omega,?_⟩ (by show _ - (i+1) < _ - i;omega) (by (refine FitL.mk ?_ ?_ ?_ ?_<;>(repeat' (first|exact trivial|exact rfl|(refine AllB.opt rfl rfl ?_)|apply And.intro));done))
            · exact ⟨(putB_len _ _ _).trans hbl,InRow.drop hpub (by omega),hsec⟩
            · simp only [DX.d,e4];exact hD
      have hk3:x.kind=3:=by
        by_cases hk3:x.kind=3
        · exact hk3
        · have:partN p.funcs.length x=none:=by unfold partN;rw [if_neg hk0,if_neg hk1,if_neg (by omega)]
          rw [this] at hP;cases hP
      have hdummy:True:=trivial
      refine (fun _=>?_) hdummy
      by_cases hk4:x.kind=3
      · have hpn':partN p.funcs.length x=some x.n:=by unfold partN;rw [if_neg (by omega),if_neg (by omega),if_pos (by omega)]
        rw [hpn'] at hP
        dsimp only at hP
        have hle:¬ (x.n < 0∨left < x.n):=fun hc=>by rw [if_pos hc] at hP;cases hP
        rw [if_neg hle] at hP
        obtain ⟨m,hm⟩:∃ m:Nat,x.n=m:=⟨x.n.toNat,by omega⟩
        have hpl:partLen x=x.n:=by unfold partLen;rw [if_neg (by omega),if_neg (by omega)]
        rw [hpl] at hD
        unfold partD at hD
        rw [if_neg (by omega),if_neg (by omega),if_neg (by omega)] at hD
        rw [hm,Int.toNat_natCast] at hD
        rw [← hm] at hD
        by_cases hk0:min n2 m=0
        · have e1:sec.take m=[]:=by
            have:=hsec.len
            by_cases h0:m=0
            · rw [h0];rfl
            · rw [List.eq_nil_of_length_eq_zero (l:=sec) (by omega)];simp
          have e2:sec.drop m=sec:=by
            have:=hsec.len
            by_cases h0:m=0
            · rw [h0];rfl
            · rw [List.eq_nil_of_length_eq_zero (l:=sec) (by omega)];simp
          simp only [DX.d,e1,e2,putB] at hD
          cases hA:A2 with
          | none =>
            have hc0:=hsec.nil hA
            have hn0:n2=0:=by have:=hsec.le;omega
            subst hA;subst hc0;subst hn0
            repeat (first|((with_reducible apply RS.indexAddrS);(iterate 5 exact rfl);omega)|((with_reducible apply RS.loadNB);(iterate 3 exact rfl);exact hQ;exact hQn;exact hQl;exact hQv)|((with_reducible apply (RS.sliceSL (b:=π2 1) (L:=a.toNat) (H:=a.toNat+m) (off':=(if n=a.toNat then 0 else 0+a.toNat * 1))));(iterate 3 exact rfl);exact ⟨_,_,rfl,ha⟩;exact ⟨_,_,rfl,(show a+x.n=_ by omega)⟩;omega;omega;(show _ < 18446744073709551616;omega);exact rfl)|((with_reducible apply RS.copy0);(iterate 4 exact rfl);(first|omega|(dsimp only;omega)))|((with_reducible apply RS.sliceNil);(iterate 3 exact rfl);exact ⟨_,_,rfl,rfl⟩;exact rfl)|((with_reducible first|apply RS.move|apply RS.assign|apply RS.fieldAddr);iterate 3 exact rfl)|((with_reducible apply RS.cmpT);(iterate 4 exact rfl);(simp only [cmpP];omega))|((with_reducible apply RS.cmpF);(iterate 4 exact rfl);(simp only [cmpN];omega))|((with_reducible apply RS.add1);(iterate 4 exact rfl);omega)|((with_reducible apply RS.binFit);(iterate 5 exact rfl);omega)|((with_reducible apply RS.load1);iterate 6 exact rfl)|((with_reducible apply RS.store);(iterate 5 exact rfl);exact Nat.le_of_ble_eq_true rfl;iterate 3 exact rfl)|((with_reducible apply RS.alloc);iterate 2 exact rfl)|((with_reducible apply RS.nil);exact mixed;kernel_rfl)|(with_reducible first|apply W.seq|apply W.block|apply W.skip|apply thenK_n|apply blockK_n)|((with_reducible apply W.reg);kernel_rfl)|((with_reducible apply W.condT);kernel_rfl;exact rfl)|((with_reducible apply W.condF);kernel_rfl;exact rfl))
            refine roundK_n (i+1,a+x.n,left - x.n,⟨b,pub,sec,A1,n1,c1,none,0,0⟩) [0,1] rfl rfl ⟨by show i+1≤_;omega,?_,hP,by dsimp only;omega,by dsimp only;omega,?_⟩ (by show _ - (i+1) < _ - i;omega) (by (refine FitL.mk ?_ ?_ ?_ ?_<;>(repeat' (first|exact trivial|exact rfl|(refine AllB.opt rfl rfl ?_)|apply And.intro));done))
            · exact ⟨hbl,hpub,hsec⟩
            · exact hD
          | some q =>
            have hq:=hsec.spot q hA
            obtain ⟨qb,qo,qs⟩:=q
            dsimp only at hq
            subst hq;subst hA
            have hle2:=hsec.le
            have hcm:=hsec.cap
            repeat (first|((with_reducible apply RS.indexAddrS);(iterate 5 exact rfl);omega)|((with_reducible apply RS.loadNB);(iterate 3 exact rfl);exact hQ;exact hQn;exact hQl;exact hQv)|((with_reducible apply (RS.sliceSL (b:=π2 1) (L:=a.toNat) (H:=a.toNat+m) (off':=(if n=a.toNat then 0 else 0+a.toNat * 1))));(iterate 3 exact rfl);exact ⟨_,_,rfl,ha⟩;exact ⟨_,_,rfl,(show a+x.n=_ by omega)⟩;omega;omega;(show _ < 18446744073709551616;omega);exact rfl)|((with_reducible apply RS.copy0);(iterate 4 exact rfl);(first|omega|(dsimp only;omega)))|((with_reducible apply (RS.sliceSL (b:=qb) (L:=0) (H:=n2) (off':=qo)));(iterate 3 exact rfl);exact ⟨_,_,rfl,rfl⟩;exact rfl;omega;omega;exact hcm;(split<;>omega))|((with_reducible first|apply RS.move|apply RS.assign|apply RS.fieldAddr);iterate 3 exact rfl)|((with_reducible apply RS.cmpT);(iterate 4 exact rfl);(simp only [cmpP];omega))|((with_reducible apply RS.cmpF);(iterate 4 exact rfl);(simp only [cmpN];omega))|((with_reducible apply RS.add1);(iterate 4 exact rfl);omega)|((with_reducible apply RS.binFit);(iterate 5 exact rfl);omega)|((with_reducible apply RS.load1);iterate 6 exact rfl)|((with_reducible apply RS.store);(iterate 5 exact rfl);exact Nat.le_of_ble_eq_true rfl;iterate 3 exact rfl)|((with_reducible apply RS.alloc);iterate 2 exact rfl)|((with_reducible apply RS.nil);exact mixed;kernel_rfl)|(with_reducible first|apply W.seq|apply W.block|apply W.skip|apply thenK_n|apply blockK_n)|((with_reducible apply W.reg);kernel_rfl)|((with_reducible apply W.condT);kernel_rfl;exact rfl)|((with_reducible apply W.condF);kernel_rfl;exact rfl))
            refine roundK_n (i+1,a+x.n,left - x.n,⟨b,pub,sec,A1,n1,c1,some ⟨qb,qo,none⟩,n2,c2⟩) [0,1] rfl rfl ⟨by show i+1≤_;omega,?_,hP,by dsimp only;omega,by dsimp only;omega,?_⟩ (by show _ - (i+1) < _ - i;omega) (by (refine FitL.mk ?_ ?_ ?_ ?_<;>(repeat' (first|exact trivial|exact rfl|(refine AllB.opt rfl rfl ?_)|apply And.intro));done))
            · exact ⟨hbl,hpub,hsec⟩
            · exact hD
        · have hn0:0 < sec.length:=by have:=hsec.len;omega
          have hle2:=hsec.le
          have hcm:=hsec.cap
          have hnl:=hsec.len
          cases hA:A2 with
          | none=>have:=hsec.nil hA;omega
          | some q =>
            have hq:=hsec.spot q hA
            obtain ⟨qb,qo,qs⟩:=q
            dsimp only at hq
            subst hq;subst hA
            obtain ⟨ds,de,hQ2,hQ2l,htk⟩:=bytes_at hsec.at_ hn0
            have hQ2n:=hd _ _ hQ2
            have e3:sec.take (min n2 (a.toNat+m - a.toNat))=sec.take m:=by
              rw [List.take_eq_take_iff];omega
            have e4:sec.drop (min n2 (a.toNat+m - a.toNat))=sec.drop m:=by
              by_cases h0:m≤n2
              · rw [show min n2 (a.toNat+m - a.toNat)=m by omega]
              · rw [List.drop_eq_nil_of_le (by omega),List.drop_eq_nil_of_le (by omega)]
            have hcp:setL (bytesC b) a.toNat (takeV qo ((min n2 (a.toNat+m - a.toNat)) * 1) ds)=bytesC (putB b a.toNat (sec.take m)):=by
              rw [Nat.mul_one,htk _ (by omega),e3,putB_bytes]
            repeat (first|((with_reducible apply RS.indexAddrS);(iterate 5 exact rfl);omega)|((with_reducible apply RS.loadNB);(iterate 3 exact rfl);exact hQ;exact hQn;exact hQl;exact hQv)|((with_reducible apply (RS.sliceSL (b:=π2 1) (L:=a.toNat) (H:=a.toNat+m) (off':=a.toNat)));(iterate 3 exact rfl);exact ⟨_,_,rfl,ha⟩;exact ⟨_,_,rfl,(show a+x.n=_ by omega)⟩;omega;omega;(show _ < 18446744073709551616;omega);(rw [if_neg (by omega)];omega))|((with_reducible apply (RS.copyLB (i:=1) (cs':=bytesC (putB b a.toNat (sec.take m)))));(iterate 6 exact rfl);exact hQ2;exact hQ2n;(unfold bytesC;rw [List.length_map];dsimp only;omega);(first|omega|(dsimp only;omega));(dsimp only;rw [Nat.mul_one,htk _ (by omega)];exact bytes_one _);exact hcp)|((with_reducible apply (RS.sliceSL (b:=qb) (L:=min n2 (a.toNat+m - a.toNat)) (H:=n2) (off':=(if c2=min n2 (a.toNat+m - a.toNat) then qo else qo+(min n2 (a.toNat+m - a.toNat)) * 1))));(iterate 3 exact rfl);exact ⟨_,_,rfl,rfl⟩;exact rfl;omega;omega;exact hcm;exact rfl)|((with_reducible first|apply RS.move|apply RS.assign|apply RS.fieldAddr);iterate 3 exact rfl)|((with_reducible apply RS.cmpT);(iterate 4 exact rfl);(simp only [cmpP];omega))|((with_reducible apply RS.cmpF);(iterate 4 exact rfl);(simp only [cmpN];omega))|((with_reducible apply RS.add1);(iterate 4 exact rfl);omega)|((with_reducible apply RS.binFit);(iterate 5 exact rfl);omega)|((with_reducible apply RS.load1);iterate 6 exact rfl)|((with_reducible apply RS.store);(iterate 5 exact rfl);exact Nat.le_of_ble_eq_true rfl;iterate 3 exact rfl)|((with_reducible apply RS.alloc);iterate 2 exact rfl)|((with_reducible apply RS.nil);exact mixed;kernel_rfl)|(with_reducible first|apply W.seq|apply W.block|apply W.skip|apply thenK_n|apply blockK_n)|((with_reducible apply W.reg);kernel_rfl)|((with_reducible apply W.condT);kernel_rfl;exact rfl)|((with_reducible apply W.condF);kernel_rfl;exact rfl))
            refine roundK_n (i+1,a+x.n,left - x.n,⟨putB b a.toNat (sec.take m),pub,sec.drop (min n2 (a.toNat+m - a.toNat)),A1,n1,c1,some ⟨qb,if c2=min n2 (a.toNat+m - a.toNat) then qo else qo+(min n2 (a.toNat+m - a.toNat)) * 1,none⟩,n2 - (min n2 (a.toNat+m - a.toNat)),c2 - (min n2 (a.toNat+m - a.toNat))⟩) [0,1] rfl rfl ⟨by show i+1≤_;omega,?_,hP,by dsimp only;omega,by dsimp only;omega,?_⟩ (by show _ - (i+1) < _ - i;omega) (by (refine FitL.mk ?_ ?_ ?_ ?_<;>(repeat' (first|exact trivial|exact rfl|(refine AllB.opt rfl rfl ?_)|apply And.intro));done))
            · exact ⟨(putB_len _ _ _).trans hbl,hpub,InRow.drop hsec (by omega)⟩
            · simp only [DX.d,e4];exact hD
      · exact absurd hk3 hk4
    · have hni2:i=g.parts.length:=by omega
      subst hni2
      rw [List.drop_length,partsD] at hD
      repeat (first|((with_reducible apply RS.move);iterate 3 exact rfl)|((with_reducible apply RS.cmpF);(iterate 4 exact rfl);(simp only [cmpN];omega))|((with_reducible apply RS.add1);(iterate 4 exact rfl);omega)|((with_reducible apply RS.nil);exact mixed;kernel_rfl)|(with_reducible first|apply W.seq|apply W.exit|apply thenK_n|apply thenK_e|apply blockK_n|apply roundK_e)|((with_reducible apply W.reg);kernel_rfl)|((with_reducible apply W.condF);kernel_rfl;exact rfl)|((with_reducible apply blockK_hit);exact rfl))
      exact roundK_n (gi+1,⟨b,pub,sec,A1,n1,c1,A2,n2,c2⟩) [0,1] rfl rfl ⟨by show gi+1≤_;omega,⟨hbl,hpub,hsec⟩,hD⟩ (by show _ - (gi+1) < _ - gi;omega) (by (refine FitL.mk ?_ ?_ ?_ ?_<;>(repeat' (first|exact trivial|exact rfl|(refine AllB.opt rfl rfl ?_)|apply And.intro));done))
  · have hni:gi=p.globals.length:=by omega
    subst hni
    rw [List.drop_length,globsD] at hD
    have hb:dx.b=dataS p pub sec:=by unfold dataS;rw [hn,Int.toNat_natCast,← hD];rfl
    repeat (first|((with_reducible first|apply RS.move|apply RS.assign);iterate 3 exact rfl)|((with_reducible apply RS.cmpF);(iterate 4 exact rfl);(simp only [cmpN];omega))|((with_reducible apply RS.nil);exact mixed;kernel_rfl)|(with_reducible first|apply W.seq|apply W.exit|apply W.ret|apply thenK_n|apply thenK_e|apply roundK_e)|((with_reducible apply W.reg);kernel_rfl)|((with_reducible apply W.condF);kernel_rfl;exact rfl)|((with_reducible apply blockK_hit);exact rfl))
    exact endsK_ret _ (.cons (.tmp rfl) .nil) ⟨rfl,1,Nat.lt_succ_self _,by rw [← hb];rfl,rfl⟩
end Go.Proofs.Ytjhloakacicdiaa
namespace Go.Proofs.Ytjhloakacicdiaa
open Go.AH
attribute [local irreducible] W RS
theorem partD_len (a:Int) (d:DatS) (x:PartS):(partD a d x).b.length=d.b.length:=by
  unfold partD
  split
  · exact putB_len _ _ _
  · split
    · exact storeV_len _ _ _ _
    · split<;>exact putB_len _ _ _
theorem partsD_len:∀ (l:List PartS) (a:Int) (d:DatS),(partsD l a d).b.length=d.b.length:=by
  intro l
  induction l with
  | nil=>intro a d;rfl
  | cons x l ih=>intro a d;rw [partsD,ih,partD_len]
theorem globsD_len:∀ (l:List GlobS) (d:DatS),(globsD l d).b.length=d.b.length:=by
  intro l
  induction l with
  | nil=>intro d;rfl
  | cons x l ih=>intro d;rw [globsD,ih,partsD_len]
theorem dataS_len (p:ProgS) (pub sec:List Int):(dataS p pub sec).length=p.data.toNat:=by
  unfold dataS;rw [globsD_len];exact List.length_replicate
theorem InRow.up {h H:Hp} (hu:∀ i b,h.m i=some b→H.m i=some b) {A:Option Addr} {n c:Nat} {l:List Int} (r:InRow h A n c l):InRow H A n c l :=
  ⟨r.at_.mono hu fun _ _ h=>h,r.len,r.le,r.cap,r.nil,r.spot⟩
theorem bytes_free (l:List Int):∀ u∈bytesC l,bnd 0 u:=by
  intro u hu
  unfold bytesC at hu
  obtain ⟨_,_,rfl⟩:=List.mem_map.1 hu
  simp
def startS (fuel:Int) (dat stk:List Int):RunS:={ fin:=0,exit:=0,out:=[],leaks:=[],steps:=0,fuel:=fuel,data:=dat,stack:=stk,sp:=134217728,deep:=0 }
def endS (r:Int × RunS):RunS:=if r.2.fin=0 then { r.2 with exit:=r.1 } else r.2
def runS (p:ProgS) (N:Nat) (pub sec:List Int) (fuel:Int):RunS:=endS (callK p N 101 (startS fuel (dataS p pub sec) (List.replicate 416000 0)) p.main [])
def brokenS:RunS:={ fin:=50,exit:=0,out:=[],leaks:=[],steps:=0,fuel:=0,data:=[],stack:=[],sp:=0,deep:=0 }
def resV (s:RunS) (o l:Nat):Value:=.agg ⟨[.int .i64 s.fin,.int .i64 s.exit,rowVl 1 o s.out,rowVl 3 l s.leaks,.int .i64 s.steps]⟩
def resL (s:RunS) (_:Nat→Nat):List (Nat × Option Blk):=[(0,rowBk intW 2 s.out),(1,rowBk leakW 90 s.leaks)]
theorem res_par {n:Nat} (s:RunS):ParL n 2 (resL s) 2:=by
  refine ⟨ParB_row (fun a v hv=>?_) s.leaks,ParB_row (fun a v hv=>?_) s.out,trivial⟩
  · simp only [leakW,List.mem_cons,List.not_mem_nil,or_false] at hv
    rcases hv with rfl|rfl|rfl<;>simp
  · simp only [intW,List.mem_cons,List.not_mem_nil,or_false] at hv
    subst hv;simp
theorem res_parv {n:Nat} (s:RunS):ParV n 2 (fun π=>resV s (π 0) (π 1)):=by
  refine ⟨fun τ π hτ=>?_,fun π N hN hp=>?_⟩
  · unfold resV
    rw [show ∀ l:List Value,sub τ (.agg ⟨l⟩)=.agg ⟨l.map (sub τ)⟩ from fun l=>by simp]
    simp [sub_row]
  · have h0:=hp 0 (by omega)
    have h1:=hp 1 (by omega)
    unfold resV
    rw [bnd_agg]
    intro v hv
    have hv:v∈[Value.int .i64 s.fin,.int .i64 s.exit,rowVl 1 (π 0) s.out,rowVl 3 (π 1) s.leaks,.int .i64 s.steps]:=by simpa using hv
    simp only [List.mem_cons,List.not_mem_nil,or_false] at hv
    rcases hv with rfl|rfl|rfl|rfl|rfl
    all_goals first|exact bnd_row (by assumption)|simp
theorem res_one {a b c:Int} {o l:Nat} {x:List Int} {y:List LeakS}:([.int .i64 a,.int .i64 b,rowVl 1 o x,rowVl 3 l y,.int .i64 c]:List Value).all (·.oneCell')=true:=by
  cases x<;>cases y<;>rfl
set_option maxHeartbeats 4000000 in
set_option maxRecDepth 100000 in
theorem Run_to (B:Hp) (hd:∀ i b,B.m i=some b→i < B.n) (p:ProgS) (hR:RunP p) (hgl:p.globals.length≤1000000) (hpl:∀ g∈p.globals,g.parts.length≤1000000) (pb:Nat) (pe:TypeId) (P1:Option Addr) (d1:Nat) (P2:Option Addr) (d2:Nat) (hp:ProgAt B pb p pe P1 d1 P2 d2)
    (A1:Option Addr) (n1 c1:Nat) (A2:Option Addr) (n2 c2:Nat) (pub sec:List Int) (hi1:InRow B A1 n1 c1 pub) (hi2:InRow B A2 n2 c2 sec) (fuel:Int) (hf:0≤fuel∧fuel≤1000000) (N:Nat) (hN:fuel < N) :
    TO Try.prog 16 B 0 2 (fun _=>[.pointer (some ⟨pb,0,none⟩),.agg ⟨[.slice A1 n1 c1,.slice A2 n2 c2]⟩,.int .i64 fuel]) (fun _=>[]) (fun π=>resV (runS p N pub sec fuel) (π 0) (π 1)) (resL (runS p N pub sec fuel)):=by
  have hpb:=hd _ _ hp.m
  have hrp:=hR.right
  unfold rightP at hrp
  simp only [Bool.and_eq_true,decide_eq_true_eq] at hrp
  obtain ⟨⟨⟨⟨r1,r2⟩,r3⟩,r4⟩,r5⟩:=hrp
  obtain ⟨n,hn⟩:∃ n:Nat,p.data=n:=⟨p.data.toNat,by omega⟩
  unfold runS
  generalize hstk:List.replicate 416000 (0:Int)=stk
  have hlen:stk.length=416000:=by rw [← hstk];exact List.length_replicate
  have hrep:repL [.int .u8 0] stk.length=bytesC stk:=by rw [hlen,bytes_rep,hstk]
  clear hstk
  have hdl:(dataS p pub sec).length=n:=by rw [dataS_len,hn];rfl
  have hdata:∀ {k:Nat} (H:Hp),H.n=k→(∀ i b,B.m i=some b→H.m i=some b)→TF Try.prog 34 ⟨[.pointer (some ⟨pb,0,none⟩),.agg ⟨[.slice A1 n1 c1,.slice A2 n2 c2]⟩]⟩ H (.slice (some ⟨k,0,none⟩) (dataS p pub sec).length (dataS p pub sec).length) (H.push ⟨⟨bytesC (dataS p pub sec)⟩,5⟩):=by
    intro k H hk hu
    subst hk
    rw [hdl]
    exact Data_tf p r4 hR.nf hgl hpl n hn (by omega) pb pe P1 d1 P2 d2 H (hp.up hu) A1 n1 c1 A2 n2 c2 pub sec (hi1.up hu) (hi2.up hu)
  have hcall:CallTE B pb (callK p N 101) (startS fuel (dataS p pub sec) stk) p.main [] :=
    (call_all B hd p hR pb pe P1 d1 P2 d2 hp N 101 (startS fuel (dataS p pub sec) stk) p.main [] ⟨⟨by show (dataS p pub sec).length≤_;omega,by show stk.length≤_;omega,⟨Int.le_refl _,hf.1⟩,hf.2,by show ((0:Nat):Int)≤0;omega,by show ((0:Nat):Int)≤0;omega,⟨by show (0:Int)≤0;omega,by show (0:Int)≤101;omega⟩⟩,rfl,hlen,by show (134217728 - 4032 * 0:Int)≤134217728;omega,Int.le_refl _,by show (101:Int)≤0+101;omega,by show (0:Int)≤100;omega,by show fuel - 0 < N;omega⟩ (by rw [r1];rfl) (fun a ha=>by cases ha)).1
  unfold CallTE at hcall
  generalize dataS p pub sec=dat at *
  generalize callK p N 101 (startS fuel dat stk) p.main []=r at *
  refine TO.intro (fn:=Try.f16) (c:=(Try.f16.body.getD .skip)) Try.func16 (by kernel_rfl) Try.ntmps16 (fun π=>by kernel_rfl) (res_par _) (res_parv _) fun π=>?_
  refine W.ghost (W.ghost (W.ghost ?_))
  conv=>arg 2;whnf
  by_cases hfin:r.2.fin=0
  · have hft:(r.2.fin == 0)=true:=by simpa using hfin
    rw [show endS r={ r.2 with exit:=r.1 } from if_pos hfin]
    repeat (first|((with_reducible apply RS.store);(iterate 5 exact rfl);exact Nat.le_of_ble_eq_true rfl;exact rfl;exact res_one;exact rfl)|((with_reducible apply W.condT);kernel_rfl;(refine congrArg (fun z=>some (Value.bool z)) (?_:_=true);assumption))|((with_reducible apply RS.callR true []);(iterate 3 exact rfl);exact fun H hH=>(show TF _ _ _ H (.int .i64 0) H by have h0:=Right_tf p hR.ok (fun f hf b hb x hx=>Nat.le_trans (hR.nargs f hf b hb x hx) (by decide)) pb pe P1 d1 P2 d2 H (hp.up (sees_up hH hd));rw [if_pos hR.right] at h0;exact h0);exact Nm_free (by simp))|((with_reducible apply (RS.callNL (b:=⟨⟨bytesC dat⟩,5⟩) true []));(iterate 3 exact rfl);exact fun H hH=>hdata H hH.n (sees_up hH hd))|((with_reducible apply (RS.makeSliceF (n:=stk.length) (kx:=.i64) (ky:=.i64) (cs:=bytesC stk)));(iterate 2 exact rfl);exact (show some (Value.int IntKind.i64 416000)=some (Value.int IntKind.i64 (stk.length:Int)) from by rw [hlen];rfl);exact (show some (Value.int IntKind.i64 416000)=some (Value.int IntKind.i64 (stk.length:Int)) from by rw [hlen];rfl);(iterate 2 exact rfl);(rw [hlen];decide);exact hrep;exact bytes_free stk)|((with_reducible apply RS.load1B);(iterate 3 exact rfl);exact hp.m;exact hpb;exact rfl)|((with_reducible apply (RS.callE [7,0,1,5,6,2] [0,3,4]));(iterate 2 exact rfl);exact hcall;(iterate 2 exact rfl);exact ⟨rfl,rfl,rfl,rfl,rfl,rfl,trivial⟩;intro π2 hπ2;rw [← hπ2 7 (by decide) (keepE rfl),← hπ2 4 (by decide) (keepE rfl)])|((with_reducible apply RS.callR false [7]);(iterate 3 exact rfl);exact fun H hH=>ok_tf _ _ _ H (hH.l 7 rfl (by simp)) rfl;exact Nm_free (by simp))|((with_reducible first|apply RS.nilCheck|apply RS.move|apply RS.assign|apply RS.fieldAddr|apply RS.box);iterate 3 exact rfl)|((with_reducible apply RS.cmpC);iterate 5 exact rfl)|((with_reducible apply RS.loadN);(iterate 5 exact rfl);exact Nat.le_of_ble_eq_true rfl)|((with_reducible apply RS.store);(iterate 5 exact rfl);exact Nat.le_of_ble_eq_true rfl;iterate 3 exact rfl)|((with_reducible apply RS.alloc);iterate 2 exact rfl)|((with_reducible apply RS.build);iterate 4 exact rfl)|((with_reducible apply RS.nil);exact mixed;kernel_rfl)|(with_reducible first|apply W.seq|apply W.ret|apply W.skip|apply thenK_n)|((with_reducible apply W.reg);kernel_rfl)|((with_reducible apply W.condF);kernel_rfl;exact rfl))
    exact endsK_ret _ (.cons (.cellN rfl rfl rfl (Nat.le_of_ble_eq_true rfl)) .nil) (by (refine AtO.mk [0,1] rfl rfl rfl ?_ ?_ rfl<;>(repeat' (first|exact trivial|exact rfl|apply And.intro));done))
  · have hft:(r.2.fin == 0)=false:=by simpa using hfin
    rw [show endS r=r.2 from if_neg hfin]
    repeat (first|((with_reducible apply RS.store);(iterate 5 exact rfl);exact Nat.le_of_ble_eq_true rfl;exact rfl;exact res_one;exact rfl)|((with_reducible apply W.condF);kernel_rfl;(refine congrArg (fun z=>some (Value.bool z)) (?_:_=false);assumption))|((with_reducible apply RS.callR true []);(iterate 3 exact rfl);exact fun H hH=>(show TF _ _ _ H (.int .i64 0) H by have h0:=Right_tf p hR.ok (fun f hf b hb x hx=>Nat.le_trans (hR.nargs f hf b hb x hx) (by decide)) pb pe P1 d1 P2 d2 H (hp.up (sees_up hH hd));rw [if_pos hR.right] at h0;exact h0);exact Nm_free (by simp))|((with_reducible apply (RS.callNL (b:=⟨⟨bytesC dat⟩,5⟩) true []));(iterate 3 exact rfl);exact fun H hH=>hdata H hH.n (sees_up hH hd))|((with_reducible apply (RS.makeSliceF (n:=stk.length) (kx:=.i64) (ky:=.i64) (cs:=bytesC stk)));(iterate 2 exact rfl);exact (show some (Value.int IntKind.i64 416000)=some (Value.int IntKind.i64 (stk.length:Int)) from by rw [hlen];rfl);exact (show some (Value.int IntKind.i64 416000)=some (Value.int IntKind.i64 (stk.length:Int)) from by rw [hlen];rfl);(iterate 2 exact rfl);(rw [hlen];decide);exact hrep;exact bytes_free stk)|((with_reducible apply RS.load1B);(iterate 3 exact rfl);exact hp.m;exact hpb;exact rfl)|((with_reducible apply (RS.callE [7,0,1,5,6,2] [0,3,4]));(iterate 2 exact rfl);exact hcall;(iterate 2 exact rfl);exact ⟨rfl,rfl,rfl,rfl,rfl,rfl,trivial⟩;intro π2 hπ2;rw [← hπ2 7 (by decide) (keepE rfl),← hπ2 4 (by decide) (keepE rfl)])|((with_reducible apply RS.callR false [7]);(iterate 3 exact rfl);exact fun H hH=>ok_tf _ _ _ H (hH.l 7 rfl (by simp)) rfl;exact Nm_free (by simp))|((with_reducible first|apply RS.nilCheck|apply RS.move|apply RS.assign|apply RS.fieldAddr|apply RS.box);iterate 3 exact rfl)|((with_reducible apply RS.cmpC);iterate 5 exact rfl)|((with_reducible apply RS.loadN);(iterate 5 exact rfl);exact Nat.le_of_ble_eq_true rfl)|((with_reducible apply RS.alloc);iterate 2 exact rfl)|((with_reducible apply RS.build);iterate 4 exact rfl)|((with_reducible apply RS.nil);exact mixed;kernel_rfl)|(with_reducible first|apply W.seq|apply W.ret|apply W.skip|apply thenK_n)|((with_reducible apply W.reg);kernel_rfl)|((with_reducible apply W.condF);kernel_rfl;exact rfl))
    exact endsK_ret _ (.cons (.cellN rfl rfl rfl (Nat.le_of_ble_eq_true rfl)) .nil) (by (refine AtO.mk [0,1] rfl rfl rfl ?_ ?_ rfl<;>(repeat' (first|exact trivial|exact rfl|apply And.intro));done))
end Go.Proofs.Ytjhloakacicdiaa
namespace Go.Proofs.Ytjhloakacicdiaa
open Go.AH
attribute [local irreducible] W RS
theorem lightI_mem:∀ {l:List InsS} {n m:Nat},lightI l n=some m→∀ x∈l,x.args.length≤4000:=by
  intro l
  induction l with
  | nil=>intro n m _ x hx;cases hx
  | cons a l ih =>
    intro n m h x hx
    rw [lightI] at h
    split at h
    · rename_i hc
      rcases List.mem_cons.1 hx with rfl|hx
      · omega
      · exact ih h x hx
    · cases h
theorem lightB_mem:∀ {l:List BlockS} {n m:Nat},lightB l n=some m→∀ b∈l,b.ins.length≤2000∧∀ x∈b.ins,x.args.length≤4000:=by
  intro l
  induction l with
  | nil=>intro n m _ x hx;cases hx
  | cons a l ih =>
    intro n m h x hx
    rw [lightB] at h
    split at h
    · rename_i hc
      obtain ⟨k,h1,h2⟩:=Option.bind_eq_some_iff.1 h
      rcases List.mem_cons.1 hx with rfl|hx
      · exact ⟨by omega,lightI_mem h1⟩
      · exact ih h2 x hx
    · cases h
theorem lightS_of {f:FuncS} (h:lightS f=true):f.slots.length≤4∧∀ z∈f.slots,0≤z∧z≤1000:=by
  unfold lightS at h
  have h:=List.all_eq_true.1 h
  refine ⟨?_,fun z hz=>?_⟩
  · cases hs:f.slots with
    | nil=>simp
    | cons a l =>
      have:=h a (by rw [hs];simp)
      simp only [Bool.and_eq_true,decide_eq_true_eq] at this
      rw [← hs];exact this.2
  · have:=h z hz
    simp only [Bool.and_eq_true,decide_eq_true_eq] at this
    exact this.1
theorem lightF_mem:∀ {l:List FuncS} {n m:Nat},lightF l n=some m→∀ f∈l,f.regs≤300∧(f.slots.length≤4∧∀ z∈f.slots,0≤z∧z≤1000)∧∀ b∈f.blocks,b.ins.length≤2000∧∀ x∈b.ins,x.args.length≤4000:=by
  intro l
  induction l with
  | nil=>intro n m _ x hx;cases hx
  | cons a l ih =>
    intro n m h x hx
    rw [lightF] at h
    split at h
    · rename_i hc
      obtain ⟨k,h1,h2⟩:=Option.bind_eq_some_iff.1 h
      rcases List.mem_cons.1 hx with rfl|hx
      · exact ⟨by omega,lightS_of hc.2.2.2,lightB_mem h1⟩
      · exact ih h2 x hx
    · cases h
structure LightP (p:ProgS):Prop where
  nf:p.funcs.length≤20
  ng:p.globals.length≤20
  np:∀ g∈p.globals,g.parts.length≤50
  f:∀ f∈p.funcs,f.regs≤300∧(f.slots.length≤4∧∀ z∈f.slots,0≤z∧z≤1000)∧∀ b∈f.blocks,b.ins.length≤2000∧∀ x∈b.ins,x.args.length≤4000
theorem lightP_all {p:ProgS} (h:lightP p=true):LightP p:=by
  unfold lightP at h
  simp only [Bool.and_eq_true,decide_eq_true_eq] at h
  obtain ⟨⟨⟨⟨⟨h1,h2⟩,h3⟩,h4⟩,h5⟩,h6⟩:=h
  obtain ⟨m,hm⟩:=Option.isSome_iff_exists.1 h6
  refine ⟨h1,h2,fun g hg=>?_,lightF_mem hm⟩
  have:=List.all_eq_true.1 h5 g hg
  unfold lightG at this
  simp only [Bool.and_eq_true,decide_eq_true_eq] at this
  exact this.1.2
theorem LightP.run {p:ProgS} (h:LightP p) (hok:p.ok) (hr:rightP p=true):RunP p :=
  ⟨hok,hr,by have:=h.nf;omega,fun f hf=>by have:=(h.f f hf).1;omega,fun f hf=>(h.f f hf).2.1.1,fun f hf=>(h.f f hf).2.1.2,fun f hf b hb=>by have:=((h.f f hf).2.2 b hb).1;omega,fun f hf b hb x hx=>by have:=((h.f f hf).2.2 b hb).2 x hx;omega⟩
def runR (p:ProgS) (N:Nat) (pub sec:List Int) (fuel:Int):RunS:=if rightP p=true then runS p N pub sec fuel else brokenS
end Go.Proofs.Ytjhloakacicdiaa
namespace Go.Proofs.Ytjhloakacicdiaa
open Go.AH
attribute [local irreducible] W RS
def fitP:ProgS:=⟨[⟨⟨#[109,97,105,110]⟩,0,0,0,[],[⟨[⟨30,-1,⟨-1,3⟩,⟨0,0⟩,0,false,false,0,0,[]⟩],⟨3,0,⟨-1,7⟩,⟨0,0⟩,0,0⟩⟩]⟩],[],0,0⟩
theorem InRow.none {h:Hp}:InRow h none 0 0 []:=⟨SlAt.nil,rfl,Nat.le_refl _,by decide,fun _=>rfl,fun a ha=>by cases ha⟩
end Go.Proofs.Ytjhloakacicdiaa
namespace Go.Proofs.Ytjhloakacicdiaa
open Go.AH
attribute [local irreducible] W RS
structure FuelOK (a b:RunS) (f:Int):Prop where
  out:∃ x,b.out=x++a.out
  leaks:∃ x,b.leaks=x++a.leaks
  steps:a.steps≤f
  same:a.fin≠42→a.fin=b.fin∧a.exit=b.exit∧a.steps=b.steps
  nout:a.out.length≤100000000∧b.out.length≤100000000
  nleaks:a.leaks.length≤100000000∧b.leaks.length≤100000000
structure RunBd (a:RunS) (f:Int):Prop where
  steps:a.steps≤f
  out:a.out.length≤100000000
  leaks:a.leaks.length≤100000000
theorem RS.moveF {P:Program} {ops:Array Oper} {draw:Bool} {rs:List Rk} {l:List Oper} {fl:List (Nat × Value)} {nt:Nat} {d:Tmp} {ty:TypeId} {pos:String} {af:Array Edge} {gd:Option (Nat × Bool)} {h:SH} {K:Fr→SH→Prop} {x:Operand} {k:IntKind} {n:Int} (hw:wantB ops ⟨some d,.move x,ty,pos,af,gd⟩ ⟨fl,nt⟩=some true) (hd:Nat.blt d nt=true) (hx:Fr.ev ⟨fl,nt⟩ x=some (.int k n))
    (hk:RS P ops draw (recP h.k false [] (some [])::rs) l ⟨(d,.int k n)::fl,nt⟩ h K):RS P ops draw rs (⟨some d,.move x,ty,pos,af,gd⟩::l) ⟨fl,nt⟩ h K :=
  RS.free hw hd (fun a g H=>by
    have:=TX.move (P:=P) (o:=⟨some d,.move x,ty,pos,af,gd⟩) (ev:=a.eval) (h:=H) rfl
    rw [g.ev hx] at this;exact this) (by simp) hk
end Go.Proofs.Ytjhloakacicdiaa
namespace Go.Proofs.Ytjhloakacicdiaa
open Go.AH
attribute [local irreducible] W RS
theorem rep_fact (n:Nat):repL (cellsV (.agg ⟨[.int .i64 0,.int .i64 0]⟩)) n=factsC (List.replicate n noF):=by
  induction n with
  | zero=>rfl
  | succ n ih=>rw [repL,ih,List.replicate_succ];rfl
theorem rep_bool (n:Nat):repL (cellsV (.bool false)) n=(List.replicate n false).map .bool:=by
  induction n with
  | zero=>rfl
  | succ n ih=>rw [repL,ih,List.replicate_succ];rfl
theorem rows_nil (n:Nat):List.replicate n (Value.slice none 0 0)=rowsV (List.replicate n 0) (List.replicate n []):=by
  induction n with
  | zero=>rfl
  | succ n ih=>rw [List.replicate_succ,List.replicate_succ,List.replicate_succ,rowsV,← ih];rfl
theorem fill_set (n i:Nat) (h:i < n):(List.replicate i anyF++List.replicate (n - i) noF).set i anyF=List.replicate (i+1) anyF++List.replicate (n - (i+1)) noF:=by
  apply List.ext_getElem?
  intro j
  rw [List.getElem?_set]
  by_cases e:i=j
  · subst e
    rw [if_pos rfl,if_pos (by simp;omega),List.getElem?_append_left (by simp),List.getElem?_replicate,if_pos (by omega)]
  · rw [if_neg e]
    by_cases h1:j < i
    · rw [List.getElem?_append_left (by simp;omega),List.getElem?_append_left (by simp;omega),List.getElem?_replicate,List.getElem?_replicate,if_pos h1,if_pos (by omega)]
    · rw [List.getElem?_append_right (by simp;omega),List.getElem?_append_right (by simp;omega),List.getElem?_replicate,List.getElem?_replicate,List.length_replicate,List.length_replicate]
      by_cases h2:j < n
      · rw [if_pos (by omega),if_pos (by omega)]
      · rw [if_neg (by omega),if_neg (by omega)]
theorem FaAt.set {h:Hp} {A:Option Addr} {l l':List FactS} (s:FaAt h A l) (hl:l'.length=l.length):FaAt (faH h A l') A l':=by
  cases s with
  | none =>
    have:l'=[]:=List.length_eq_zero_iff.1 hl
    subst this
    exact .none
  | some hm hr=>exact .some (by show (if _=_ then _ else _)=_;rw [if_pos rfl]) hr
theorem faH_off {h:Hp} {A:Option Addr} {l l':List FactS} {N:Nat} (s:FaAt h A l) (hN:∀ x,A=Option.some x→N≤x.block):OffS (fun i=>N≤i) h (faH h A l'):=by
  cases s with
  | none=>exact .refl _ _
  | some hm hr=>exact (OffS.set h _ _).mono fun j _ e=>by rw [e];exact hN _ rfl
theorem faH_keep {h:Hp} {A:Option Addr} {l l':List FactS} (s:FaAt h A l) {i:Nat} {b:Blk} (hb:h.m i=Option.some b) (he:b.elem≠111∨∀ x,A=Option.some x→i≠x.block):(faH h A l').m i=Option.some b:=by
  cases s with
  | none=>exact hb
  | some hm hr =>
    show (if i=_ then _ else h.m i)=_
    rw [if_neg]
    · exact hb
    · intro e
      rcases he with he|he
      · exact ne_of_elem hb hm he e
      · exact he _ rfl e
theorem SolAt.apart {h:Hp} {N sb fb ib nb:Nat} {al:List Nat} {n:Nat} {s:SolS} (o:SolAt h N sb fb ib nb al n s) {A:Option Addr} {l l':List FactS} (hs:FaAt h A l) (hap:∀ x,A=some x→ApartF al s.ins x.block):SolAt (faH h A l') N sb fb ib nb al n s:=by
  have hk:∀ {i:Nat} {b:Blk},h.m i=some b→b.elem≠111→(faH h A l').m i=some b:=fun hb he=>faH_keep hs hb (.inl he)
  refine ⟨o.rw,o.alen,o.ilen,o.slen,o.gs,o.gi,o.gn,hk o.hi (by simp),hk o.hn (by simp),fun i a m h1 h2 h3=>⟨(o.row i a m h1 h2 h3).1,faH_keep hs (o.row i a m h1 h2 h3).2 (.inr fun x hx e=>?_)⟩,o.sep,?_⟩
  · exact h3 (hap x hx i m (by rw [← e];exact h1) h2)
  · obtain ⟨A2,cap,h1,h2,h3⟩:=o.stk
    exact ⟨A2,cap,hk h1 (by simp),h2.keep fun i b hb he=>hk hb (by rw [he];decide),h3⟩
theorem reachFs_left {n r:Nat} {l:List FactS} (hl:l.length=r) (hf:FitF l) (hw:WfF l):∀ (ks:List Int) (s:SolS),SolW n r s→GoodS s→(∀ k∈ks,0≤k∧k < n)→GoodS (ks.foldl (reachF l) s)∧leftS r (ks.foldl (reachF l) s)≤leftS r s
  | [],s,_,g,_=>⟨g,Nat.le_refl _⟩
  | k::ks,s,w,g,hk=>by
    obtain ⟨g1,l1⟩:=reachF_left w g hl hf hw (hk k (by simp)).1 (hk k (by simp)).2
    obtain ⟨w1,_⟩:=reachF_ok w hl (hk k (by simp)).1 (hk k (by simp)).2
    obtain ⟨g2,l2⟩:=reachFs_left hl hf hw ks (reachF l s k) w1 g1 fun j hj=>hk j (by simp [hj])
    exact ⟨g2,Nat.le_trans l2 l1⟩
theorem hwU {B B':Hp} {sb i:Nat} {N fb ib nb:Nat} {al:List Nat} {n:Nat} {s:SolS} (hu:∀ i b,B.m i=some b→B'.m i=some b) (o:SolAt B N sb fb ib nb al n s) (hw:ApartW B sb i):ApartW B' sb i:=by
  obtain ⟨A2,cap,h1,_⟩:=o.stk
  intro f g e A n c el hm
  have h2:=hu _ _ h1
  rw [h2,← h1] at hm
  exact hw f g e A n c el hm
theorem oldM {h H B:Hp} {N:Nat} (o:Old h H) (ho:OffS (fun i=>N≤i) H B) (hN:h.n≤N):Old h B:=⟨Nat.le_trans o.1 ho.1,fun i hi=>by rw [ho.2 i (Nat.lt_of_lt_of_le hi o.1) (fun e=>by omega),o.2 i hi]⟩
theorem oldN {h B H:Hp} (o:Old h B) (ho:OffS (fun i=>h.n≤i) B H):Old h H:=(o.off.trans (S:=fun i=>h.n≤i) ho fun j _ e=>e).old fun j hj e=>by omega
set_option maxRecDepth 100000 in
theorem solve_ex (fb:Nat) (m:Nat) (A:Option Addr) (c:Nat) (bl:List BlockS) (hpos:0 < bl.length) (hlen:bl.length≤100000) (hm:m≤1000000) (htg:tgtOK bl) (hb4:∀ b∈bl,b.ins.length≤1000000) (hb5:∀ b∈bl,∀ x∈b.ins,x.ok∧x.dst < (m:Int)) (h:Hp) (hf:FAt h fb (m:Int) A c bl) :
    EX Try.prog 49 [.pointer (some ⟨fb,0,none⟩)] h (fun v h'=>∃ sb ib nb al s',v=.pointer (some ⟨sb,0,none⟩)∧SolRun bl (sol0 bl.length m) s'∧SolI bl m s'∧GoodS s'∧SolAt h' h.n sb fb ib nb al bl.length s'∧Old h h'):=by
  refine EX.intro (fn:=Try.f49) (c:=(Try.f49.body.getD .skip)) Try.func49 (by kernel_rfl) Try.ntmps49 (by kernel_rfl) fun π s0=>?_
  conv=>arg 2;whnf
  have hd:=s0.dom
  obtain ⟨fcs,hF,h3,h5⟩:=hf.hf
  have hFn:=s0.dom _ _ hF
  ((with_reducible apply W.seq);repeat (first|((with_reducible apply RS.assign);iterate 3 exact rfl)|((with_reducible apply RS.nil);exact mixed;kernel_rfl)|((with_reducible apply W.reg);kernel_rfl)|(with_reducible apply thenK_n)))
  ((with_reducible apply W.seq);repeat (first|((with_reducible apply RS.load1B);(iterate 3 exact rfl);exact hF;exact hFn;first|exact h5|exact h3)|((with_reducible first|apply RS.nilCheck|apply RS.move|apply RS.assign|apply RS.lenSl|apply RS.fieldAddr);iterate 3 exact rfl)|((with_reducible apply RS.nil);exact mixed;kernel_rfl)|((with_reducible apply W.reg);kernel_rfl)|(with_reducible apply thenK_n)))
  ((with_reducible apply W.seq);repeat (first|((with_reducible apply RS.moveF);iterate 3 exact rfl)|((with_reducible apply RS.makeSliceF);(iterate 6 exact rfl);first|omega;exact rep_nil _;(intro u hu;rw [List.eq_of_mem_replicate hu];exact bnd_slice_none _ _ _)|omega;exact rep_bool _;(intro u hu;obtain ⟨_,_,rfl⟩:=List.mem_map.1 hu;simp))|((with_reducible first|apply RS.move|apply RS.assign|apply RS.box);iterate 3 exact rfl)|((with_reducible apply RS.build);iterate 4 exact rfl)|((with_reducible apply RS.nil);exact mixed;kernel_rfl)|((with_reducible apply W.reg);kernel_rfl)|(with_reducible apply thenK_n)))
  ((with_reducible apply W.seq);repeat (first|((with_reducible apply RS.load1B);(iterate 3 exact rfl);exact hF;exact hFn;first|exact h5|exact h3)|((with_reducible apply RS.makeSliceF);(iterate 6 exact rfl);omega;exact rep_fact _;exact factsC_free _)|((with_reducible first|apply RS.nilCheck|apply RS.move|apply RS.assign|apply RS.fieldAddr);iterate 3 exact rfl)|((with_reducible apply RS.nil);exact mixed;kernel_rfl)|((with_reducible apply W.reg);kernel_rfl)|(with_reducible apply thenK_n)))
  refine W.absorbX fun B0 π0 a0=>?_
  have m0:B0.m (π 0)=some ⟨⟨List.replicate bl.length (.slice none 0 0)⟩,109⟩:=a0.loc 0 (by decide:(0:Nat) < 4)
  have m1:B0.m (π 1)=some ⟨⟨(List.replicate bl.length false).map .bool⟩,4⟩:=a0.loc 1 (by decide:(1:Nat) < 4)
  have m2:B0.m (π 2)=some ⟨⟨[.pointer (some ⟨fb,0,none⟩),.slice (some ⟨π 0,0,none⟩) bl.length bl.length,.slice (some ⟨π 1,0,none⟩) bl.length bl.length,.slice none 0 0]⟩,106⟩:=a0.loc 2 (by decide:(2:Nat) < 4)
  have m3:B0.m (π 3)=some ⟨⟨factsC (List.replicate m noF)⟩,111⟩:=a0.loc 3 (by decide:(3:Nat) < 4)
  have g0:h.n≤π 0:=a0.lo 0 (by decide:(0:Nat) < 4)
  have g1:h.n≤π 1:=a0.lo 1 (by decide:(1:Nat) < 4)
  have g2:h.n≤π 2:=a0.lo 2 (by decide:(2:Nat) < 4)
  have g3:h.n≤π 3:=a0.lo 3 (by decide:(3:Nat) < 4)
  generalize π 0=ib at *
  generalize π 1=nb at *
  generalize π 2=sb at *
  generalize π 3=q at *
  have hrw:=s0.rw
  have hqr:rwM≤q:=Nat.le_trans hrw g3
  rw [rows_nil] at m0
  repeat (first|((with_reducible apply RS.moveF);iterate 3 exact rfl)|((with_reducible first|apply RS.move|apply RS.lenSl);iterate 3 exact rfl)|((with_reducible apply RS.nil);exact mixed;kernel_rfl)|(with_reducible first|apply W.seq|apply W.block|apply thenK_n)|((with_reducible apply W.reg);kernel_rfl))
  refine W.loopN (X:=Nat) (fun i=>[(0,.pointer (some ⟨fb,0,none⟩)),(4,.pointer (some ⟨sb,0,none⟩)),(5,.slice (some ⟨q,0,none⟩) m m),(31,.int .i64 (m:Int)),(32,.int .i64 (i:Int))])
    (fun i B=>i≤m∧OffS (fun j=>j=q) B0 B∧B.m q=some ⟨⟨factsC (List.replicate i anyF++List.replicate (m - i) noF)⟩,111⟩) (fun i=>m - i)
    (fun B' x=>⟨0,?_,⟨Nat.zero_le _,x.oldH.off,x.up _ _ m3⟩⟩) ?_
  · (repeat' (first|exact trivial|exact rfl|apply And.intro));done
  rintro i B π1 sB ⟨hi,hoff,hQ⟩
  have hQn:=sB.dom _ _ hQ
  by_cases hlt:i < m
  · have hle:0+i * 2+2≤(factsC (List.replicate i anyF++List.replicate (m - i) noF)).length:=by rw [factsC_length];simp;omega
    have hset:setL (factsC (List.replicate i anyF++List.replicate (m - i) noF)) (0+i * 2) (factC anyF)=factsC (List.replicate (i+1) anyF++List.replicate (m - (i+1)) noF):=by
      rw [factsC_set (by simp;omega),fill_set m i hlt]
    repeat (first|((with_reducible apply RS.moveF);iterate 3 exact rfl)|((with_reducible apply RS.indexAddrS);(iterate 5 exact rfl);exact hlt)|((with_reducible apply RS.storeB);(iterate 3 exact rfl);exact hQ;exact hQn;exact hqr;exact hle;(iterate 2 exact rfl);exact hset)|((with_reducible first|apply RS.move|apply RS.assign);iterate 3 exact rfl)|((with_reducible apply RS.cmpT);(iterate 4 exact rfl);(simp only [cmpP];omega))|((with_reducible apply RS.add1);(iterate 4 exact rfl);omega)|((with_reducible apply RS.build);iterate 4 exact rfl)|((with_reducible apply RS.nil);exact mixed;kernel_rfl)|(with_reducible first|apply W.seq|apply W.block|apply W.skip|apply thenK_n|apply blockK_n)|((with_reducible apply W.reg);kernel_rfl)|((with_reducible apply W.condT);kernel_rfl;exact rfl))
    refine roundN_n rfl fun B' x=>⟨i+1,?_,⟨hlt,(hoff.trans (OffS.set B q _) fun j _ e=>e).same x.oldH.off,x.up _ _ (by show (if q=q then _ else _)=_;rw [if_pos rfl])⟩,by omega⟩
    (repeat' (first|exact trivial|exact rfl|apply And.intro));done
  · have him:i=m:=by omega
    subst him
    rw [Nat.sub_self,List.replicate_zero,List.append_nil] at hQ
    have keep0:∀ {j:Nat} {x:Blk},B0.m j=some x→x.elem≠111→B.m j=some x:=by
      intro j x hx he
      rw [hoff.2 j (a0.dom _ _ hx) (ne_of_elem hx m3 he)];exact hx
    have old0:Old h B:=⟨Nat.le_trans a0.oldH.1 hoff.1,fun j hj=>by rw [hoff.2 j (Nat.lt_of_lt_of_le hj a0.oldH.1) (by omega),a0.oldH.2 j hj]⟩
    have hz:∀ (j:Nat) (l:List FactS),(List.replicate bl.length ([]:List FactS))[j]?=some l→l=[]:=fun j l hl=>by
      rw [List.getElem?_replicate] at hl
      split at hl
      · injection hl with hl;exact hl.symm
      · cases hl
    have o0:SolAt B h.n sb fb ib nb (List.replicate bl.length 0) bl.length ⟨List.replicate bl.length [],List.replicate bl.length false,[]⟩ :=
      ⟨hrw,by simp,by simp,by simp,g2,g0,g1,keep0 m0 (by simp),keep0 m1 (by simp),fun i a l _ hl hn=>absurd (hz i l hl) hn,fun i j a l l' _ _ hl _ hn _=>absurd (hz i l hl) hn,⟨none,0,keep0 m2 (by simp),.nil,fun a ha=>by cases ha⟩⟩
    have w0:SolW bl.length i ⟨List.replicate bl.length [],List.replicate bl.length false,[]⟩:=by
      refine ⟨by simp,by simp,fun k l _ hk=>?_,fun k hk=>by cases hk⟩
      have hk:(List.replicate bl.length false)[k]?=some true:=hk
      rw [List.getElem?_replicate] at hk
      split at hk<;>simp at hk
    have hre:∀ B1,Absb (P:=Try.prog) ⟨B,π1,0,[]⟩ B1→EX Try.prog 63 [.pointer (some ⟨sb,0,none⟩),.int .i64 0,.slice (some ⟨q,0,none⟩) i i] B1 (fun v h'=>v=.tuple #[]∧ReachQ B1 h.n sb fb ib nb (List.replicate bl.length 0) bl.length ⟨List.replicate bl.length [],List.replicate bl.length false,[]⟩ (sol0 bl.length (i:Int)) h'):=fun B1 hB1=>by
      have:=reach_ex sb fb ib nb _ bl.length _ 0 (List.replicate i anyF) (some ⟨q,0,none⟩) i h.n i (by omega) (by omega) hlen (by simpa using hm) (by simp) w0 (by simp) B1 (o0.up hB1.up) (.some (hB1.up _ _ hQ) hqr) (fun x hx j l hl1 hl2=>hz j l hl2)
      rw [List.length_replicate] at this
      unfold sol0
      rw [Int.toNat_natCast]
      exact this
    have hI0:=sol0_ok hpos (i:Int)
    rw [Int.toNat_natCast] at hI0
    have hG0:GoodS ⟨List.replicate bl.length [],List.replicate bl.length false,[]⟩:=⟨fun l hl=>(by rw [List.eq_of_mem_replicate hl];exact fun f hf=>absurd hf List.not_mem_nil),fun l hl=>(by rw [List.eq_of_mem_replicate hl];exact fun f hf=>absurd hf List.not_mem_nil)⟩
    have hgl:=reachF_left w0 hG0 (l:=List.replicate i anyF) (by simp) (fun f hf=>by rw [List.eq_of_mem_replicate hf];exact fit0) (fun f hf=>.inl (List.eq_of_mem_replicate hf)) (k:=0) (by omega) (by omega)
    have hG1:GoodS (sol0 bl.length (i:Int)):=by unfold sol0;rw [Int.toNat_natCast];exact hgl.1
    have hL1:leftS i (sol0 bl.length (i:Int))≤1000000000000:=by
      have h1:leftS i (sol0 bl.length (i:Int))≤leftS i ⟨List.replicate bl.length [],List.replicate bl.length false,[]⟩:=by unfold sol0;rw [Int.toNat_natCast];exact hgl.2
      have h2:=costV_le i (List.replicate bl.length []) (List.replicate bl.length false) (fun l hl=>by rw [List.eq_of_mem_replicate hl];exact Nat.zero_le _)
      rw [List.length_replicate] at h2
      have h3:bl.length * (i+1)≤100000 * 1000001:=Nat.mul_le_mul hlen (by omega)
      have h4:leftS i ⟨List.replicate bl.length [],List.replicate bl.length false,[]⟩=2 * (costV i (List.replicate bl.length []) (List.replicate bl.length false)).sum:=rfl
      omega
    repeat (first|((with_reducible apply RS.callEx);(iterate 3 exact rfl);intro B1 hB1;refine ⟨_,hre B1 hB1,?_⟩;rintro v H1 π1 ⟨rfl,al1,o1,ho1,hap1,hwp1⟩ sH1 hle1)|((with_reducible apply RS.move);iterate 3 exact rfl)|((with_reducible apply RS.cmpF);(iterate 4 exact rfl);(simp only [cmpN];omega))|((with_reducible apply RS.nil);exact mixed;kernel_rfl)|(with_reducible first|apply W.seq|apply W.block|apply W.exit|apply thenK_n|apply thenK_e|apply roundN_e)|((with_reducible apply W.reg);kernel_rfl)|((with_reducible apply W.condF);kernel_rfl;exact rfl)|((with_reducible apply blockK_hit);exact rfl))
    refine W.loopN (X:=SolS × List Nat) (fun _=>[(0,.pointer (some ⟨fb,0,none⟩)),(4,.pointer (some ⟨sb,0,none⟩))])
      (fun x B=>SolAt B h.n sb fb ib nb x.2 bl.length x.1∧Old h B∧SolI bl i x.1∧GoodS x.1∧(∀ s',SolRun bl x.1 s'→SolRun bl (sol0 bl.length (i:Int)) s')∧leftS i x.1≤1000000000000) (fun x=>leftS i x.1)
      (fun B' x=>⟨(sol0 bl.length (i:Int),al1),?_,⟨o1.up x.up,?_,hI0,hG1,fun _ h=>h,hL1⟩⟩) ?_
    · (repeat' (first|exact trivial|exact rfl|apply And.intro));done
    · exact (oldN (old0.trans hB1.oldH) ho1).trans x.oldH
    rintro ⟨s,al⟩ B2 π2 sB2 ⟨hO,hold,hI,hG',hrun,hleft⟩
    dsimp only at hO hold hI hG' hrun hleft ⊢
    obtain ⟨A2,cap2,hS,hstk,hA2⟩:=hO.stk
    have hSn:=sB2.dom _ _ hS
    cases hwk:s.work with
    | nil =>
      rw [hwk,List.length_nil] at hS
      repeat (first|((with_reducible apply RS.load1B);(iterate 3 exact rfl);exact hS;exact hSn;exact rfl)|((with_reducible first|apply RS.nilCheck|apply RS.move|apply RS.assign|apply RS.lenSl|apply RS.fieldAddr);iterate 3 exact rfl)|((with_reducible apply RS.cmpF);(iterate 4 exact rfl);(simp only [cmpN];omega))|((with_reducible apply RS.nil);exact mixed;kernel_rfl)|(with_reducible first|apply W.seq|apply W.exit|apply W.ret|apply thenK_n|apply thenK_e|apply roundN_e)|((with_reducible apply W.reg);kernel_rfl)|((with_reducible apply W.condF);kernel_rfl;exact rfl)|((with_reducible apply blockK_hit);exact rfl))
      refine endsK_ret _ (.cons (.tmp rfl) .nil) fun B' x=>⟨sb,ib,nb,al,s,rfl,hrun s (.stop hwk),hI,hG',hO.up x.up,hold.trans x.oldH⟩
    | cons k w =>
      rw [hwk,List.length_cons] at hS
      rw [hwk,intsV_cons] at hstk
      have hwl:w.length≤1000000000000:=by
        have:leftS i s=2 * (costV i s.ins s.seen).sum+s.work.length:=rfl
        rw [hwk,List.length_cons] at this
        omega
      obtain ⟨r,t,rfl,hr0,hrr,hrc⟩:=stk_lt hstk (by simp)
      have hrn:=sB2.dom _ _ hr0
      have hat:(intsV w++[Value.int .i64 k]++t)[0+w.length * 1]?=some (.int .i64 k):=by
        have:=intsV_length w
        rw [List.append_assoc,List.getElem?_append_right (by omega)]
        simp
      have hle:w.length≤(intsV w++[Value.int .i64 k]++t).length:=by simp
      have hcap:cap2=capOf 1∨(w.length≤cap2∧cap2 < capMark):=by
        rcases hrc with hc|⟨hc,hcm⟩
        · exact .inl hc
        · exact .inr ⟨by simp at hc;omega,hcm⟩
      have hsr:rwM≤sb:=Nat.le_trans hO.rw hO.gs
      obtain ⟨k0,k1,ks⟩:=hI.work k (by rw [hwk];simp)
      ((with_reducible apply W.seq);repeat (fail))
      ((with_reducible apply W.seq);repeat (first|((with_reducible apply RS.load1B);(iterate 3 exact rfl);exact hS;exact hSn;exact rfl)|((with_reducible first|apply RS.nilCheck|apply RS.move|apply RS.lenSl|apply RS.fieldAddr);iterate 3 exact rfl)|((with_reducible apply RS.cmpT);(iterate 4 exact rfl);(simp only [cmpP];omega))|((with_reducible apply RS.nil);exact mixed;kernel_rfl)|((with_reducible apply W.reg);kernel_rfl)|(with_reducible first|apply W.block|apply W.skip|apply thenK_n)|((with_reducible apply W.condT);kernel_rfl;exact rfl)))
      ((with_reducible apply W.seq);repeat (first|((with_reducible apply RS.load1B);(iterate 3 exact rfl);first|exact hS;exact hSn;exact rfl|exact hr0;exact hrn;exact hat)|((with_reducible apply RS.indexAddrS);(iterate 5 exact rfl);omega)|((with_reducible first|apply RS.nilCheck|apply RS.move|apply RS.assign|apply RS.lenSl|apply RS.fieldAddr);iterate 3 exact rfl)|((with_reducible apply RS.sub1);(iterate 4 exact rfl);omega)|((with_reducible apply RS.nil);exact mixed;kernel_rfl)|((with_reducible apply W.reg);kernel_rfl)|(with_reducible apply thenK_n)))
      ((with_reducible apply W.seq);repeat (first|((with_reducible apply RS.load1B);(iterate 3 exact rfl);exact hS;exact hSn;exact rfl)|((with_reducible apply RS.sliceStk);(iterate 4 exact rfl);exact hr0;exact hrn;exact hrr;exact hle;exact hcap)|((with_reducible apply RS.storeB);(iterate 3 exact rfl);exact hS;exact hSn;exact hsr;exact Nat.le_of_ble_eq_true rfl;iterate 3 exact rfl)|((with_reducible first|apply RS.nilCheck|apply RS.move|apply RS.lenSl|apply RS.fieldAddr);iterate 3 exact rfl)|((with_reducible apply RS.sub1);(iterate 4 exact rfl);omega)|((with_reducible apply RS.nil);exact mixed;kernel_rfl)|((with_reducible apply W.reg);kernel_rfl)|(with_reducible apply thenK_n)))
      refine W.absorbX fun B3 π3 a3=>?_
      have hSB:B3.m sb=some ⟨⟨[.pointer (some ⟨fb,0,none⟩),.slice (some ⟨ib,0,none⟩) bl.length bl.length,.slice (some ⟨nb,0,none⟩) bl.length bl.length,.slice (some ⟨r,0,none⟩) w.length cap2]⟩,106⟩:=a3.up sb _ (by show (if sb=sb then _ else _)=_;rw [if_pos rfl];rfl)
      have keep3:∀ {j:Nat} {x:Blk},B2.m j=some x→x.elem≠106→B3.m j=some x:=by
        intro j x hx he
        refine a3.up j x ?_
        show (if j=sb then _ else B2.m j)=_
        rw [if_neg (ne_of_elem hx hS he)];exact hx
      have old3:Old h B3:=by
        refine oldN hold (((OffS.set B2 sb _).mono fun j _ e=>?_).same a3.oldH.off)
        rw [e];exact hO.gs
      have o3:SolAt B3 h.n sb fb ib nb al bl.length ⟨s.ins,s.seen,w⟩:=hO.setWork (w:=w) (fun j b hb h1 h2=>keep3 hb h2) ⟨some ⟨r,0,none⟩,cap2,hSB,.row (t:=.int .i64 k::t) (by rw [keep3 hr0 (by simp)];simp) hrr (by
        rcases hrc with hc|⟨hc,hcm⟩
        · exact .inl hc
        · exact .inr ⟨by simp at hc ⊢;omega,hcm⟩),hA2⟩
      have hknat:k=(k.toNat:Int):=by omega
      have hklt:k.toNat < bl.length:=by omega
      obtain ⟨l0,hl0⟩:∃ l,s.ins[k.toNat]?=some l:=⟨_,List.getElem?_eq_getElem (by rw [hI.ins];exact hklt)⟩
      obtain ⟨qa,hqa⟩:∃ a,al[k.toNat]?=some a:=⟨_,List.getElem?_eq_getElem (by rw [hO.alen];exact hklt)⟩
      have hl0n:l0.length=i:=hI.wid _ _ hl0 ks
      have hrow:=rowsV_get hqa hl0
      obtain ⟨A5,c5,hv5,hA5⟩:∃ A5 c5,rowVl 2 qa l0=.slice A5 i c5∧(i≠0→A5=some ⟨qa,0,none⟩):=by
        rw [rowVl_eq,hl0n]
        exact ⟨_,_,rfl,fun hn=>by rw [if_neg (fun e=>hn (by rw [← hl0n,e];rfl))]⟩
      rw [hv5] at hrow
      have hI3:=o3.hi
      have hI3n:=a3.dom _ _ hI3
      have hS3n:=a3.dom _ _ hSB
      have hrow5:∀ B,Absb (P:=Try.prog) ⟨B3,π3,0,[]⟩ B→i≠0→∃ b off cs e2,A5=some ⟨b,off,none⟩∧B.m b=some ⟨⟨cs⟩,e2⟩∧off+i * 2≤cs.length∧takeV off (i * 2) cs=factsC l0:=fun B hB hn=>by
        have hne:l0≠[]:=fun e=>hn (by rw [← hl0n,e];rfl)
        have h1:=(o3.row _ _ _ hqa hl0 hne).2
        refine ⟨qa,0,factsC l0,_,hA5 hn,hB.up _ _ h1,by rw [factsC_length,hl0n];omega,?_⟩
        rw [takeV_eq,List.drop_zero,List.take_of_length_le (by rw [factsC_length,hl0n];exact Nat.le_refl _)]
      ((with_reducible apply W.seq);repeat (first|((with_reducible apply RS.moveF);iterate 3 exact rfl)|((with_reducible apply RS.load1B);(iterate 3 exact rfl);first|exact hSB;exact hS3n;exact rfl|exact hI3;exact hI3n;exact cells_at hrow)|((with_reducible apply RS.indexAddrS);(iterate 4 exact rfl);exact hknat;exact hklt)|((with_reducible apply RS.copyNil (vs:=factsC l0));(iterate 6 exact rfl);exact hrow5;omega;omega;intro B5 hB5 A6 c6 H6 π6 sH6 hz6 hn6 hle6 hoff6)|((with_reducible first|apply RS.nilCheck|apply RS.move|apply RS.assign|apply RS.fieldAddr);iterate 3 exact rfl)|((with_reducible apply RS.nil);exact mixed;kernel_rfl)|((with_reducible apply W.reg);kernel_rfl)|(with_reducible apply thenK_n)))
      have old6:Old B3 H6:=hB5.oldH.trans ⟨hle6,hoff6⟩
      have o6:=o3.up (old6.up a3.dom)
      have hd6:=sH6.dom
      have hfa6:FaAt H6 A6 l0:=by
        by_cases hn:i=0
        · have:l0=[]:=List.length_eq_zero_iff.1 (hl0n.trans hn)
          rw [this,(hz6 hn).1];exact .none
        · obtain ⟨r6,e1,_,e3,e4⟩:=hn6 hn
          rw [e1]
          exact .some e4 (Nat.le_trans hrw (Nat.le_trans old3.1 (Nat.le_trans hB5.le e3)))
      have hge6:∀ x,A6=some x→B3.n≤x.block:=fun x hx=>by
        by_cases hn:i=0
        · rw [(hz6 hn).1] at hx;cases hx
        · obtain ⟨r6,e1,_,e3,_⟩:=hn6 hn
          rw [e1] at hx
          injection hx with hx
          rw [← hx];exact Nat.le_trans hB5.le e3
      have hap6:∀ x,A6=some x→ApartF al s.ins x.block:=fun x hx j l h1 h2=>by
        cases l with
        | nil=>rfl
        | cons f l =>
          have:=a3.dom _ _ (o3.row j _ _ h1 h2 (by simp)).2
          have:=hge6 x hx
          omega
      have hN6:∀ x,A6=some x→h.n≤x.block:=fun x hx=>Nat.le_trans old3.1 (hge6 x hx)
      have oldh6:=old3.trans old6
      have hf6:=hf.up (oldh6.up hd)
      obtain ⟨fcs6,hF6,_,h56⟩:=hf6.hf
      have hF6n:=hd6 _ _ hF6
      obtain ⟨b,hb⟩:∃ b,bl[k.toNat]?=some b:=⟨_,List.getElem?_eq_getElem hklt⟩
      have hbm:=List.mem_of_getElem? hb
      obtain ⟨gb,go,gcs,ge,rfl,hG0,hGl,Ai,ci,hGb,hins⟩:=hf.sl.get _ b hb
      have hG:=oldh6.up hd _ _ hG0
      have hGn:=hd6 _ _ hG
      have hib:=hb4 b hbm
      repeat (first|((with_reducible apply RS.moveF);iterate 3 exact rfl)|((with_reducible apply RS.indexAddrS);(iterate 4 exact rfl);exact hknat;exact hklt)|((with_reducible apply RS.load1B);(iterate 3 exact rfl);first|exact hF6;exact hF6n;exact h56|exact hG;exact hGn;exact take_nth (j:=0) hGb rfl)|((with_reducible first|apply RS.nilCheck|apply RS.move|apply RS.lenSl|apply RS.fieldAddr);iterate 3 exact rfl)|((with_reducible apply RS.nil);exact mixed;kernel_rfl)|(with_reducible first|apply W.seq|apply W.block|apply thenK_n)|((with_reducible apply W.reg);kernel_rfl))
      refine W.loopN (X:=Nat) (fun j=>[(0,.pointer (some ⟨fb,0,none⟩)),(4,.pointer (some ⟨sb,0,none⟩)),(7,.int .i64 k),(8,.slice A6 i c6),(90,.slice Ai b.ins.length ci),(91,.int .i64 (b.ins.length:Int)),(92,.int .i64 (j:Int))])
        (fun j B=>j≤b.ins.length∧SolAt B h.n sb fb ib nb al bl.length ⟨s.ins,s.seen,w⟩∧OffS (fun j=>B3.n≤j) H6 B∧FaAt B A6 ((b.ins.take j).foldl stepF l0)) (fun j=>b.ins.length - j)
        (fun B' x=>⟨0,?_,⟨Nat.zero_le _,o6.up x.up,x.oldH.off,hfa6.up x.up⟩⟩) ?_
      · (repeat' (first|exact trivial|exact rfl|apply And.intro));done
      rintro j B7 π7 sB7 ⟨hj,o7,off7,hfa7⟩
      have oldB7:Old h B7:=oldM oldh6 off7 old3.1
      have hclen:((b.ins.take j).foldl stepF l0).length=i:=by rw [stepsF_length];exact hl0n
      have hoks:∀ x∈b.ins,x.ok:=fun x hx=>(hb5 b hbm x hx).1
      have hcfit:FitF ((b.ins.take j).foldl stepF l0):=stepsF_fit _ _ (hG'.fit _ (List.mem_of_getElem? hl0)) fun x hx=>hoks x (List.mem_of_mem_take hx)
      by_cases hjl:j < b.ins.length
      · obtain ⟨x,hx⟩:∃ x,b.ins[j]?=some x:=⟨_,List.getElem?_eq_getElem hjl⟩
        have hxm:=List.mem_of_getElem? hx
        obtain ⟨xb,xo,xcs,xe,rfl,hX0,hXl,xA,xc,hXv,_⟩:=hins.get j x hx
        have hX:=oldB7.up hd _ _ hX0
        have hXn:=sB7.dom _ _ hX
        have hstep:∀ B8:Hp,(∀ i b,B7.m i=some b→B8.m i=some b)→EX Try.prog 64 [.slice A6 i c6,.agg ⟨insC x xA xc⟩] B8 (fun v h'=>v=.tuple #[]∧h'=faH B8 A6 (stepF ((b.ins.take j).foldl stepF l0) x)):=fun B8 hu=>by
          have:=step_tf _ A6 c6 x xA xc (by rw [hclen];omega) hcfit (hoks x hxm) (by rw [hclen];exact (hb5 b hbm x hxm).2) B8 (hfa7.up hu)
          rw [hclen] at this
          exact this.ex
        repeat (first|((with_reducible apply RS.moveF);iterate 3 exact rfl)|((with_reducible apply RS.indexAddrS);(iterate 5 exact rfl);omega)|((with_reducible apply RS.loadNB);(iterate 3 exact rfl);exact hX;exact hXn;exact hXl;exact hXv)|((with_reducible apply RS.callEx);(iterate 3 exact rfl);intro B8 hB8;refine ⟨_,hstep B8 hB8.up,?_⟩;rintro v H9 π9 ⟨rfl,rfl⟩ sH9 hle9)|((with_reducible apply RS.move);iterate 3 exact rfl)|((with_reducible apply RS.cmpT);(iterate 4 exact rfl);(simp only [cmpP];omega))|((with_reducible apply RS.add1);(iterate 4 exact rfl);omega)|((with_reducible apply RS.loadN);(iterate 5 exact rfl);exact Nat.le_of_ble_eq_true rfl)|((with_reducible apply RS.store);(iterate 5 exact rfl);exact Nat.le_of_ble_eq_true rfl;iterate 3 exact rfl)|((with_reducible apply RS.alloc);iterate 2 exact rfl)|((with_reducible apply RS.nil);exact mixed;kernel_rfl)|(with_reducible first|apply W.seq|apply W.block|apply W.skip|apply thenK_n|apply blockK_n)|((with_reducible apply W.reg);kernel_rfl)|((with_reducible apply W.condT);kernel_rfl;exact rfl))
        have hfa8:=hfa7.up hB8.up
        have hnext:(b.ins.take (j+1)).foldl stepF l0=stepF ((b.ins.take j).foldl stepF l0) x:=by
          rw [List.take_add_one,hx,List.foldl_append];rfl
        refine roundN_n rfl fun B' y=>⟨j+1,?_,⟨hjl,((o7.up hB8.up).apart hfa8 hap6).up y.up,((off7.same hB8.oldH.off).same (faH_off hfa8 hge6)).same y.oldH.off,?_⟩,by omega⟩
        · (repeat' (first|exact trivial|exact rfl|apply And.intro));done
        · rw [hnext]
          exact (hfa8.set (stepF_length _ _)).up y.up
      · have hjj:j=b.ins.length:=by omega
        subst hjj
        rw [List.take_length] at hfa7 hclen hcfit
        obtain ⟨lo,hlo⟩:∃ lo,b.ins.foldl stepF l0=lo:=⟨_,rfl⟩
        rw [hlo] at hfa7 hclen hcfit
        have hlowf:WfF lo:=by rw [← hlo];exact stepsF_wf _ _ (hG'.wf _ (List.mem_of_getElem? hl0))
        have hG7:=oldB7.up hd _ _ hG0
        have hG7n:=sB7.dom _ _ hG7
        have hF7:=oldB7.up hd _ _ hF
        have hF7n:=sB7.dom _ _ hF7
        have hGv:takeV (go+k.toNat * 9+1) 8 gcs=termC b.term:=takeV_part (n:=8) hGb (by decide)
        have hGl1:go+k.toNat * 9+1+8≤gcs.length:=by omega
        obtain ⟨outs,houts⟩:∃ outs,nextF b.term lo=outs:=⟨_,rfl⟩
        have hnx:∀ B8:Hp,(∀ i b,B7.m i=some b→B8.m i=some b)→EX Try.prog 54 [.agg ⟨termC b.term⟩,.slice A6 i c6] B8 (fun v h'=>∃ A' c',v=.slice A' outs.length c'∧IntAt h' A' outs∧Old B8 h'∧∀ a,A'=some a→B8.n≤a.block):=fun B8 hu=>by
          have:=fnext_ex b.term lo A6 c6 (by rw [hclen];omega) B8 (hfa7.up hu)
          rw [hclen,houts] at this
          exact this
        have houtn:outs.length≤2:=by
          rw [← houts];unfold nextF nextS
          repeat' split
          all_goals simp
        have hkl:∀ o∈outs,0≤o∧o < bl.length:=fun o ho=>htg b hbm o (nextF_sub o (by rw [houts];exact ho))
        have w1:SolW bl.length i ⟨s.ins,s.seen,w⟩:=⟨hI.ins,hI.seen,hI.wid,fun j hj=>hI.work j (by rw [hwk];simp [hj])⟩
        have hG1':GoodS ⟨s.ins,s.seen,w⟩:=⟨hG'.fit,hG'.wf⟩
        have hlp:=leftS_pop (r:=i) hwk
        repeat (first|((with_reducible apply RS.moveF);iterate 3 exact rfl)|((with_reducible apply RS.indexAddrS);(iterate 4 exact rfl);exact hknat;exact hklt)|((with_reducible apply RS.load1B);(iterate 3 exact rfl);exact hF7;exact hF7n;exact h5)|((with_reducible apply RS.loadNB);(iterate 3 exact rfl);exact hG7;exact hG7n;exact hGl1;exact hGv)|((with_reducible apply RS.callEx);(iterate 3 exact rfl);intro B8 hB8;refine ⟨_,hnx B8 hB8.up,?_⟩;rintro v H9 π9 ⟨AL,cL,rfl,hil,ho9,hnew9⟩ sH9 hle9)|((with_reducible first|apply RS.nilCheck|apply RS.move|apply RS.lenSl|apply RS.fieldAddr);iterate 3 exact rfl)|((with_reducible apply RS.cmpF);(iterate 4 exact rfl);(simp only [cmpN];omega))|((with_reducible apply RS.nil);exact mixed;kernel_rfl)|(with_reducible first|apply W.seq|apply W.block|apply W.exit|apply thenK_n|apply thenK_e|apply roundN_e)|((with_reducible apply W.reg);kernel_rfl)|((with_reducible apply W.condF);kernel_rfl;exact rfl)|((with_reducible apply blockK_hit);exact rfl))
        have old9:Old B7 H9:=hB8.oldH.trans ho9
        have o9:=(o7.up (old9.up sB7.dom))
        refine W.loopN (X:=Nat × List Nat) (fun x=>[(0,.pointer (some ⟨fb,0,none⟩)),(4,.pointer (some ⟨sb,0,none⟩)),(8,.slice A6 i c6),(109,.slice AL outs.length cL),(110,.int .i64 (outs.length:Int)),(111,.int .i64 (x.1:Int))])
          (fun x B=>x.1≤outs.length∧SolAt B h.n sb fb ib nb x.2 bl.length ((outs.take x.1).foldl (reachF lo) ⟨s.ins,s.seen,w⟩)∧Old h B∧FaAt B A6 lo∧(∀ z,A6=some z→ApartF x.2 ((outs.take x.1).foldl (reachF lo) ⟨s.ins,s.seen,w⟩).ins z.block)∧IntAt B AL outs∧∀ a,AL=some a→ApartW B sb a.block) (fun x=>outs.length - x.1)
          (fun B' y=>⟨(0,al),?_,⟨Nat.zero_le _,o9.up y.up,(oldB7.trans old9).trans y.oldH,(hfa7.up (old9.up sB7.dom)).up y.up,hap6,hil.up y.up,fun a ha f g e A n c el hm hA=>?_⟩⟩) ?_
        · (repeat' (first|exact trivial|exact rfl|apply And.intro));done
        · obtain ⟨A9,cap9,hS9,hstk9,_⟩:=o7.stk
          have h1:=y.up _ _ (old9.up sB7.dom _ _ hS9)
          rw [h1] at hm
          injection hm with hm
          injection hm with hm _
          injection hm with hm
          simp only [List.cons.injEq,Value.slice.injEq] at hm
          have hAA:A9=A:=hm.2.2.2.1.1
          rw [← hAA] at hA
          subst hA
          cases hstk9 with
          | row hm9 _ _ =>
            have:=sB7.dom _ _ hm9
            have h2:=hnew9 a ha
            have h3:=hB8.le
            dsimp only at h3
            omega
        rintro ⟨j,al2⟩ B10 π10 sB10 ⟨hj,o10,old10,hfa10,hap10,hil10,hwp10⟩
        dsimp only at hj o10 old10 hfa10 hap10 hil10 hwp10 ⊢
        obtain ⟨w10,u10,_⟩:=reachFs_ok (l:=lo) hclen (outs.take j) _ w1 fun o ho=>hkl o (List.mem_of_mem_take ho)
        obtain ⟨g10,l10⟩:=reachFs_left (l:=lo) hclen hcfit hlowf (outs.take j) _ w1 hG1' fun o ho=>hkl o (List.mem_of_mem_take ho)
        by_cases hjl:j < outs.length
        · obtain ⟨o,ho⟩:∃ o,outs[j]?=some o:=⟨_,List.getElem?_eq_getElem hjl⟩
          obtain ⟨ho0,ho1⟩:=hkl o (List.mem_of_getElem? ho)
          obtain ⟨nr,hnr,hN⟩:∃ nr,AL=some ⟨nr,0,none⟩∧B10.m nr=some ⟨⟨outs.map (.int .i64)⟩,3⟩:=by
            rcases hil10 with e|e
            · rw [e] at hjl;exact absurd hjl (Nat.not_lt_zero _)
            · exact e
          subst hnr
          have hNn:=sB10.dom _ _ hN
          have hNv:(outs.map (Value.int .i64))[0+j * 1]?=some (.int .i64 o):=cells_at (by rw [List.getElem?_map,ho];rfl)
          have hwk10:((outs.take j).foldl (reachF lo) ⟨s.ins,s.seen,w⟩).work.length≤1000000000000:=by
            have h1:leftS i ((outs.take j).foldl (reachF lo) ⟨s.ins,s.seen,w⟩)=2 * (costV i ((outs.take j).foldl (reachF lo) ⟨s.ins,s.seen,w⟩).ins ((outs.take j).foldl (reachF lo) ⟨s.ins,s.seen,w⟩).seen).sum+((outs.take j).foldl (reachF lo) ⟨s.ins,s.seen,w⟩).work.length:=rfl
            omega
          have hrch:∀ B11:Hp,(∀ i b,B10.m i=some b→B11.m i=some b)→EX Try.prog 63 [.pointer (some ⟨sb,0,none⟩),.int .i64 o,.slice A6 i c6] B11 (fun v h'=>v=.tuple #[]∧ReachQ B11 h.n sb fb ib nb al2 bl.length ((outs.take j).foldl (reachF lo) ⟨s.ins,s.seen,w⟩) (reachF lo ((outs.take j).foldl (reachF lo) ⟨s.ins,s.seen,w⟩) o) h'):=fun B11 hu=>by
            have:=reach_ex sb fb ib nb al2 bl.length _ o lo A6 c6 h.n i ho0 ho1 hlen (by rw [hclen];exact hm) hwk10 w10 hclen B11 (o10.up hu) (hfa10.up hu) hap10
            rw [hclen] at this
            exact this
          have hnext:(outs.take (j+1)).foldl (reachF lo) ⟨s.ins,s.seen,w⟩=reachF lo ((outs.take j).foldl (reachF lo) ⟨s.ins,s.seen,w⟩) o:=by
            rw [List.take_add_one,ho,List.foldl_append];rfl
          repeat (first|((with_reducible apply RS.moveF);iterate 3 exact rfl)|((with_reducible apply RS.indexAddrS);(iterate 5 exact rfl);omega)|((with_reducible apply RS.load1B);(iterate 3 exact rfl);exact hN;exact hNn;exact hNv)|((with_reducible apply RS.callEx);(iterate 3 exact rfl);intro B11 hB11;refine ⟨_,hrch B11 hB11.up,?_⟩;rintro v H12 π12 ⟨rfl,al12,o12,ho12,hap12,hwp12⟩ sH12 hle12)|((with_reducible first|apply RS.move|apply RS.assign);iterate 3 exact rfl)|((with_reducible apply RS.cmpT);(iterate 4 exact rfl);(simp only [cmpP];omega))|((with_reducible apply RS.add1);(iterate 4 exact rfl);omega)|((with_reducible apply RS.nil);exact mixed;kernel_rfl)|(with_reducible first|apply W.seq|apply W.block|apply W.skip|apply thenK_n|apply blockK_n)|((with_reducible apply W.reg);kernel_rfl)|((with_reducible apply W.condT);kernel_rfl;exact rfl))
          refine roundN_n rfl fun B' y=>⟨(j+1,al12),?_,⟨hjl,?_,(oldN (old10.trans hB11.oldH) ho12).trans y.oldH,?_,fun z hz=>?_,?_,fun a ha=>?_⟩,by dsimp only;omega⟩
          · (repeat' (first|exact trivial|exact rfl|apply And.intro));done
          · dsimp only;rw [hnext];exact o12.up y.up
          · have h1:=hfa10.up hB11.up
            cases h1 with
            | none=>exact .none
            | some hm1 hr1=>exact .some (y.up _ _ (hap12 _ _ hm1 rfl (hap10 _ rfl)).1) hr1
          · dsimp only;rw [hnext]
            have h1:=hfa10.up hB11.up
            cases h1 with
            | none=>cases hz
            | some hm1 hr1 =>
              injection hz with hz
              subst hz
              exact (hap12 _ _ hm1 rfl (hap10 _ rfl)).2
          · exact .inr ⟨nr,rfl,y.up _ _ (hwp12 nr _ (hB11.up _ _ hN) rfl (hwU hB11.up o10 (hwp10 _ rfl))).1⟩
          · injection ha with ha
            subst ha
            exact hwU y.up o12 (hwp12 nr _ (hB11.up _ _ hN) rfl (hwU hB11.up o10 (hwp10 _ rfl))).2
        · have hjj:j=outs.length:=by omega
          subst hjj
          rw [List.take_length] at o10 w10 g10 l10
          have hround:roundF bl ⟨s.ins,s.seen,w⟩ k=outs.foldl (reachF lo) ⟨s.ins,s.seen,w⟩:=by
            have ho:outF bl ⟨s.ins,s.seen,w⟩ k=lo:=by unfold outF;rw [hb];dsimp only;rw [hl0];exact hlo
            unfold roundF
            rw [hb];dsimp only
            rw [ho,houts]
          rw [← hround] at o10 g10 l10
          repeat (first|((with_reducible apply RS.cmpF);(iterate 4 exact rfl);(simp only [cmpN];omega))|((with_reducible apply RS.nil);exact mixed;kernel_rfl)|(with_reducible first|apply W.seq|apply W.exit|apply thenK_n|apply thenK_e|apply blockK_n|apply roundN_e)|((with_reducible apply W.reg);kernel_rfl)|((with_reducible apply W.condF);kernel_rfl;exact rfl)|((with_reducible apply blockK_hit);exact rfl))
          refine roundN_n rfl fun B' y=>⟨(roundF bl ⟨s.ins,s.seen,w⟩ k,al2),?_,⟨o10.up y.up,old10.trans y.oldH,roundF_ok htg hI hwk,g10,fun s' hs'=>hrun s' (.go hwk hs'),by dsimp only;omega⟩,by dsimp only;omega⟩
          (repeat' (first|exact trivial|exact rfl|apply And.intro));done
end Go.Proofs.Ytjhloakacicdiaa
namespace Go.Proofs.Ytjhloakacicdiaa
open Go.AH
def mixL {α:Type} (a b:List α) (k:Nat):List α:=a.take k++b.drop k
theorem mixL_zero {α:Type} (a b:List α):mixL a b 0=b:=by simp [mixL]
theorem mixL_all {α:Type} {a b:List α} (h:a.length=b.length):mixL a b b.length=a:=by
  unfold mixL
  rw [← h,List.take_length,h,List.drop_length,List.append_nil]
theorem mixL_length {α:Type} {a b:List α} (h:a.length=b.length) (k:Nat):(mixL a b k).length=b.length:=by
  unfold mixL
  simp;omega
theorem mixL_get {α:Type} {a b:List α} (h:a.length=b.length) (k i:Nat):(mixL a b k)[i]?=if i < k then a[i]? else b[i]?:=by
  unfold mixL
  by_cases hk:k≤a.length
  · by_cases hi:i < k
    · rw [if_pos hi,List.getElem?_append_left (by simp;omega),List.getElem?_take,if_pos hi]
    · rw [if_neg hi,List.getElem?_append_right (by simp;omega),List.getElem?_drop]
      congr 1
      simp;omega
  · rw [List.take_of_length_le (by omega),List.drop_eq_nil_of_le (by omega),List.append_nil]
    split
    · rfl
    · rw [List.getElem?_eq_none_iff.2 (by omega),List.getElem?_eq_none_iff.2 (by omega)]
theorem mixL_at {α:Type} {a b:List α} (h:a.length=b.length) (k:Nat):(mixL a b k)[k]?=b[k]?:=by rw [mixL_get h,if_neg (Nat.lt_irrefl _)]
theorem mixL_set {α:Type} {a b:List α} (h:a.length=b.length) {k:Nat} {x:α} (hx:a[k]?=some x):(mixL a b k).set k x=mixL a b (k+1):=by
  have hk:=(List.getElem?_eq_some_iff.1 hx).1
  apply List.ext_getElem?
  intro i
  rw [List.getElem?_set,mixL_length h,mixL_get h,mixL_get h]
  by_cases e:k=i
  · subst e
    rw [if_pos rfl,if_pos (by omega),if_pos (by omega),hx]
  · rw [if_neg e]
    by_cases h1:i < k
    · rw [if_pos h1,if_pos (by omega)]
    · rw [if_neg h1,if_neg (by omega)]
structure OwnA (h:Hp) (N bb:Nat) (bv:List BV):Prop where
  rw:rwM≤N
  ge:N≤bb
  m:h.m bb=some ⟨⟨(bv.map BV.c).flatten⟩,47⟩
  row:∀ b∈bv,b.ins≠[]→N≤b.r∧h.m b.r=some ⟨⟨(b.ins.map insVC).flatten⟩,64⟩
  arg:∀ b∈bv,∀ x∈b.ins,x.1.args≠[]→N≤x.2∧h.m x.2=some ⟨⟨argsC x.1.args⟩,43⟩
  sep:∀ (i j:Nat) (x y:BV),bv[i]?=some x→bv[j]?=some y→x.ins≠[]→y.ins≠[]→x.r=y.r→i=j
  sepA:∀ (i j k m:Nat) (x y:BV) (u v:InsV),bv[i]?=some x→bv[j]?=some y→x.ins[k]?=some u→y.ins[m]?=some v→u.1.args≠[]→v.1.args≠[]→u.2=v.2→i=j∧k=m
theorem OwnD.ownA {h:Hp} {N bb:Nat} {bv:List BV} (o:OwnD h N bv) (hN:rwM≤N) (hb:N≤bb) (hm:h.m bb=some ⟨⟨(bv.map BV.c).flatten⟩,47⟩):OwnA h N bb bv:=by
  have ow:=o.own hN (Nat.le_trans hN hb) hm
  refine ⟨hN,hb,hm,o.row,o.arg,ow.sep,?_⟩
  obtain ⟨p1,p2⟩:=List.pairwise_flatMap.1 o.sepA
  have lt:∀ (i j k m:Nat) (x y:BV) (u v:InsV),i < j→bv[i]?=some x→bv[j]?=some y→x.ins[k]?=some u→y.ins[m]?=some v→u.1.args≠[]→v.1.args≠[]→u.2 < v.2:=by
    intro i j k m x y u v hij hx hy hu hv h1 h2
    obtain ⟨hi,hx'⟩:=List.getElem?_eq_some_iff.1 hx
    obtain ⟨hj,hy'⟩:=List.getElem?_eq_some_iff.1 hy
    have:=List.pairwise_iff_getElem.1 p2 i j hi hj hij
    rw [hx',hy'] at this
    exact this u (List.mem_of_getElem? hu) v (List.mem_of_getElem? hv) h1 h2
  have lt2:∀ (k m:Nat) (x:BV) (u v:InsV),x∈bv→k < m→x.ins[k]?=some u→x.ins[m]?=some v→u.1.args≠[]→v.1.args≠[]→u.2 < v.2:=by
    intro k m x u v hx hkm hu hv h1 h2
    obtain ⟨hk,hu'⟩:=List.getElem?_eq_some_iff.1 hu
    obtain ⟨hm,hv'⟩:=List.getElem?_eq_some_iff.1 hv
    have:=List.pairwise_iff_getElem.1 (p1 x hx) k m hk hm hkm
    rw [hu',hv'] at this
    exact this h1 h2
  intro i j k m x y u v hx hy hu hv h1 h2 he
  rcases Nat.lt_trichotomy i j with h3|h3|h3
  · have:=lt i j k m x y u v h3 hx hy hu hv h1 h2;omega
  · subst h3
    rw [hx] at hy
    injection hy with hy
    subst hy
    rcases Nat.lt_trichotomy k m with h4|h4|h4
    · have:=lt2 k m x u v (List.mem_of_getElem? hx) h4 hu hv h1 h2;omega
    · exact ⟨rfl,h4⟩
    · have:=lt2 m k x v u (List.mem_of_getElem? hx) h4 hv hu h2 h1;omega
  · have:=lt j i m k y x v u h3 hy hx hv hu h2 h1;omega
section
variable {h H:Hp} {N bb:Nat} {bv:List BV}
theorem OwnA.own (o:OwnA h N bb bv):OwnB h bb bv :=
  ⟨Nat.le_trans o.rw o.ge,o.m,fun b hb hn=>⟨Nat.le_trans o.rw (o.row b hb hn).1,(o.row b hb hn).2⟩,fun b hb x hx hn=>⟨Nat.le_trans o.rw (o.arg b hb x hx hn).1,(o.arg b hb x hx hn).2⟩,o.sep⟩
theorem OwnA.up (o:OwnA h N bb bv) (hu:∀ i b,h.m i=some b→H.m i=some b):OwnA H N bb bv :=
  ⟨o.rw,o.ge,hu _ _ o.m,fun b hb hn=>⟨(o.row b hb hn).1,hu _ _ (o.row b hb hn).2⟩,fun b hb x hx hn=>⟨(o.arg b hb x hx hn).1,hu _ _ (o.arg b hb x hx hn).2⟩,o.sep,o.sepA⟩
theorem OwnA.keep (o:OwnA h N bb bv) (hu:∀ i b,h.m i=some b→b.elem=47∨b.elem=64∨b.elem=43→H.m i=some b):OwnA H N bb bv :=
  ⟨o.rw,o.ge,hu _ _ o.m (.inl rfl),fun b hb hn=>⟨(o.row b hb hn).1,hu _ _ (o.row b hb hn).2 (.inr (.inl rfl))⟩,fun b hb x hx hn=>⟨(o.arg b hb x hx hn).1,hu _ _ (o.arg b hb x hx hn).2 (.inr (.inr rfl))⟩,o.sep,o.sepA⟩
theorem OwnA.setT (o:OwnA h N bb bv) {i:Nat} {b:BV} (hb:bv[i]?=some b) (t:TermS) (hm:H.m bb=some ⟨⟨((bv.set i { b with term:=t }).map BV.c).flatten⟩,47⟩) (hk:∀ j x,h.m j=some x→x.elem≠47→H.m j=some x) :
    OwnA H N bb (bv.set i { b with term:=t }):=by
  have hmem:=List.mem_of_getElem? hb
  have back:∀ {j:Nat} {x:BV},(bv.set i { b with term:=t })[j]?=some x→∃ x',bv[j]?=some x'∧x'.ins=x.ins∧x'.r=x.r:=by
    intro j x hx
    rcases set_get hx with ⟨e1,e2⟩|⟨_,e2⟩
    · subst e1;subst e2;exact ⟨b,hb,rfl,rfl⟩
    · exact ⟨x,e2,rfl,rfl⟩
  refine ⟨o.rw,o.ge,hm,fun x hx hn=>?_,fun x hx y hy hn=>?_,fun j k x y hx hy hxn hyn he=>?_,fun p j k m x y u v hx hy hu hv h1 h2 he=>?_⟩
  · rcases mem_set hx with h1|h1
    · exact ⟨(o.row x h1 hn).1,hk _ _ (o.row x h1 hn).2 (by simp)⟩
    · subst h1
      exact ⟨(o.row b hmem hn).1,hk _ _ (o.row b hmem hn).2 (by simp)⟩
  · rcases mem_set hx with h1|h1
    · exact ⟨(o.arg x h1 y hy hn).1,hk _ _ (o.arg x h1 y hy hn).2 (by simp)⟩
    · subst h1
      exact ⟨(o.arg b hmem y hy hn).1,hk _ _ (o.arg b hmem y hy hn).2 (by simp)⟩
  · obtain ⟨x',h1,h2,h3⟩:=back hx
    obtain ⟨y',g1,g2,g3⟩:=back hy
    exact o.sep j k x' y' h1 g1 (by rw [h2];exact hxn) (by rw [g2];exact hyn) (by rw [h3,g3];exact he)
  · obtain ⟨x',q1,q2,q3⟩:=back hx
    obtain ⟨y',g1,g2,g3⟩:=back hy
    exact o.sepA p j k m x' y' u v q1 g1 (by rw [q2];exact hu) (by rw [g2];exact hv) h1 h2 he
theorem setI_c (b:BV) (k:Nat) (y:InsV):BV.c { b with ins:=b.ins.set k y }=b.c:=by
  unfold BV.c
  rw [rowVl_eq,rowVl_eq]
  simp
theorem setI_cs {bv:List BV} {i k:Nat} {b:BV} (hb:bv[i]?=some b) (y:InsV):(bv.set i { b with ins:=b.ins.set k y }).map BV.c=bv.map BV.c:=by
  rw [List.map_set,setI_c]
  exact set_same (bv_at hb)
theorem OwnA.setX (o:OwnA h N bb bv) {i k:Nat} {b:BV} {x:InsV} (hb:bv[i]?=some b) (hx:b.ins[k]?=some x) (y:InsS) (hy:y.args≠[]→x.1.args≠[])
    (hrow:H.m b.r=some ⟨⟨((b.ins.set k (y,x.2)).map insVC).flatten⟩,64⟩) (harg:y.args≠[]→H.m x.2=some ⟨⟨argsC y.args⟩,43⟩)
    (hk:∀ j z,h.m j=some z→z.elem=47∨z.elem=64∨z.elem=43→j≠b.r→(x.1.args≠[]→j≠x.2)→H.m j=some z):OwnA H N bb (bv.set i { b with ins:=b.ins.set k (y,x.2) }):=by
  have hbm:=List.mem_of_getElem? hb
  have hbn:b.ins≠[]:=by intro e;rw [e] at hx;simp at hx
  have hxm:=List.mem_of_getElem? hx
  have hr:=(o.row b hbm hbn).2
  have ha:=fun hn=>(o.arg b hbm x hxm hn).2
  have back:∀ {j:Nat} {z:BV},(bv.set i { b with ins:=b.ins.set k (y,x.2) })[j]?=some z→∃ z',bv[j]?=some z'∧z'.r=z.r∧(z.ins≠[]→z'.ins≠[])∧((j=i∧z={ b with ins:=b.ins.set k (y,x.2) })∨(j≠i∧z=z')):=by
    intro j z hz
    rcases set_get hz with ⟨e1,e2⟩|⟨e1,e2⟩
    · subst e1;subst e2;exact ⟨b,hb,rfl,fun _=>hbn,.inl ⟨rfl,rfl⟩⟩
    · exact ⟨z,e2,rfl,id,.inr ⟨e1,rfl⟩⟩
  have backI:∀ {j m:Nat} {z:BV} {u:InsV},(bv.set i { b with ins:=b.ins.set k (y,x.2) })[j]?=some z→z.ins[m]?=some u→u.1.args≠[]→∃ z' u',bv[j]?=some z'∧z'.ins[m]?=some u'∧u'.2=u.2∧u'.1.args≠[]∧((j=i∧m=k∧u=(y,x.2))∨(¬ (j=i∧m=k)∧u=u')):=by
    intro j m z u hz hu hn
    obtain ⟨z',h1,_,_,h4⟩:=back hz
    rcases h4 with ⟨e1,e2⟩|⟨e1,e2⟩
    · subst e1;subst e2
      rcases set_get hu with ⟨f1,f2⟩|⟨f1,f2⟩
      · subst f1;subst f2
        exact ⟨b,x,hb,hx,rfl,hy hn,.inl ⟨rfl,rfl,rfl⟩⟩
      · exact ⟨b,u,hb,f2,rfl,hn,.inr ⟨fun e=>f1 e.2,rfl⟩⟩
    · subst e2
      exact ⟨z,u,h1,hu,rfl,hn,.inr ⟨fun e=>e1 e.1,rfl⟩⟩
  refine ⟨o.rw,o.ge,?_,fun z hz hn=>?_,fun z hz u hu hn=>?_,fun j p z w hz hw hzn hwn he=>?_,fun j p m q z w u v hz hw hu hv h1 h2 he=>?_⟩
  · rw [setI_cs hb]
    refine hk _ _ o.m (.inl rfl) (ne_of_elem o.m hr (by simp)) fun hn=>ne_of_elem o.m (ha hn) (by simp)
  · obtain ⟨j,hj⟩:=List.mem_iff_getElem?.1 hz
    obtain ⟨z',h1,h2,h3,h4⟩:=back hj
    rcases h4 with ⟨e1,e2⟩|⟨e1,e2⟩
    · subst e2;exact ⟨(o.row b hbm hbn).1,hrow⟩
    · subst e2
      have hzr:=o.row z (List.mem_of_getElem? h1) hn
      exact ⟨hzr.1,hk _ _ hzr.2 (.inr (.inl rfl)) (fun e=>e1 (o.sep j i z b h1 hb hn hbn e)) fun hn'=>ne_of_elem hzr.2 (ha hn') (by simp)⟩
  · obtain ⟨j,hj⟩:=List.mem_iff_getElem?.1 hz
    obtain ⟨m,hm⟩:=List.mem_iff_getElem?.1 hu
    obtain ⟨z',u',h1,h2,h3,h4,h5⟩:=backI hj hm hn
    have hua:=o.arg z' (List.mem_of_getElem? h1) u' (List.mem_of_getElem? h2) h4
    rcases h5 with ⟨_,_,e⟩|⟨e1,e2⟩
    · subst e
      exact ⟨(o.arg b hbm x hxm (hy hn)).1,harg hn⟩
    · subst e2
      exact ⟨hua.1,hk _ _ hua.2 (.inr (.inr rfl)) (ne_of_elem hua.2 hr (by simp)) fun hn' e=>e1 (o.sepA j i m k z' b u x h1 hb h2 hx hn hn' e)⟩
  · obtain ⟨z',h1,h2,h3,_⟩:=back hz
    obtain ⟨w',g1,g2,g3,_⟩:=back hw
    exact o.sep j p z' w' h1 g1 (h3 hzn) (g3 hwn) (by rw [h2,g2];exact he)
  · obtain ⟨z',u',e1,e2,e3,e4,_⟩:=backI hz hu h1
    obtain ⟨w',v',f1,f2,f3,f4,_⟩:=backI hw hv h2
    exact o.sepA j p m q z' w' u' v' e1 f1 e2 f2 e4 f4 (by rw [e3,f3];exact he)
end
def insVs:List FactS→List InsV→List InsV
  | _,[]=>[]
  | l,x::xs=>(insF l x.1,x.2)::insVs (stepF l x.1) xs
theorem insVs_length:∀ (xs:List InsV) (l:List FactS),(insVs l xs).length=xs.length
  | [],_=>rfl
  | _::xs,l=>by simp [insVs,insVs_length xs]
theorem insVs_fst:∀ (xs:List InsV) (l:List FactS),(insVs l xs).map (·.1)=insFs l (xs.map (·.1))
  | [],_=>rfl
  | x::xs,l=>by simp [insVs,insFs,insVs_fst xs]
theorem insVs_get:∀ {xs:List InsV} {l:List FactS} {k:Nat} {x:InsV},xs[k]?=some x→(insVs l xs)[k]?=some (insF (((xs.take k).map (·.1)).foldl stepF l) x.1,x.2)
  | y::xs,l,0,x,h=>by
    simp only [List.getElem?_cons_zero,Option.some.injEq] at h
    subst h;rfl
  | y::xs,l,k+1,x,h=>by
    rw [insVs,List.getElem?_cons_succ,insVs_get (xs:=xs) (by simpa using h)]
    rfl
  | [],_,_,_,h=>by simp at h
def blockV (l:List FactS) (b:BV):BV:=⟨insVs l b.ins,b.r,termF ((b.ins.map (·.1)).foldl stepF l) b.term⟩
theorem blockV_s (l:List FactS) (b:BV):(blockV l b).s=blockF l b.s:=by
  unfold blockV blockF BV.s
  simp only [insVs_fst]
def foldVs:List BV→List (List FactS)→List Bool→List BV
  | b::bv,l::ls,s::ss=>(if s=true then blockV l b else b)::foldVs bv ls ss
  | bv,_,_=>bv
theorem foldVs_s:∀ (bv:List BV) (ls:List (List FactS)) (ss:List Bool),sL (foldVs bv ls ss)=foldB (sL bv) ls ss
  | [],[],_=>by simp [foldVs,foldB,sL]
  | [],_::_,[]=>by simp [foldVs,foldB,sL]
  | [],_::_,_::_=>by simp [foldVs,foldB,sL]
  | _::_,[],_=>by simp [foldVs,foldB,sL]
  | _::_,_::_,[]=>by simp [foldVs,foldB,sL]
  | b::bv,l::ls,s::ss=>by
    have ih:=foldVs_s bv ls ss
    unfold sL at ih ⊢
    simp only [foldVs,List.map_cons,foldB,ih]
    congr 1
    split
    · exact blockV_s l b
    · rfl
theorem foldVs_length:∀ (bv:List BV) (ls:List (List FactS)) (ss:List Bool),(foldVs bv ls ss).length=bv.length
  | [],[],_=>rfl
  | [],_::_,[]=>rfl
  | [],_::_,_::_=>rfl
  | _::_,[],_=>rfl
  | _::_,_::_,[]=>rfl
  | b::bv,l::ls,s::ss=>by simp [foldVs,foldVs_length bv ls ss]
theorem foldVs_get:∀ {bv:List BV} {ls:List (List FactS)} {ss:List Bool} {k:Nat} {b:BV} {l:List FactS} {s:Bool},bv[k]?=some b→ls[k]?=some l→ss[k]?=some s→(foldVs bv ls ss)[k]?=some (if s=true then blockV l b else b)
  | _::_,_::_,_::_,0,_,_,_,h1,h2,h3=>by
    simp only [List.getElem?_cons_zero,Option.some.injEq] at h1 h2 h3
    subst h1;subst h2;subst h3;rfl
  | _::_,_::_,_::_,k+1,_,_,_,h1,h2,h3=>by
    rw [foldVs,List.getElem?_cons_succ]
    exact foldVs_get (by simpa using h1) (by simpa using h2) (by simpa using h3)
  | [],_,_,_,_,_,_,h1,_,_=>by simp at h1
  | _::_,[],_,_,_,_,_,_,h2,_=>by simp at h2
  | _::_,_::_,[],_,_,_,_,_,_,h3=>by simp at h3
end Go.Proofs.Ytjhloakacicdiaa
namespace Go.Proofs.Ytjhloakacicdiaa
open Go.AH
attribute [local irreducible] W RS
theorem argsC_set:∀ {l:List ArgS} {i:Nat} {a:ArgS},i < l.length→setL (argsC l) (0+i * 2) (argC a)=argsC (l.set i a)
  | b::l,0,a,_=>by
    show setL (argC b++argsC l) _ (argC a)=argC a++argsC l
    unfold argC
    rw [setL_cons,setL_cons,setL_nil];rfl
  | b::l,i+1,a,h=>by
    have:=argsC_set (l:=l) (i:=i) (a:=a) (by simpa using h)
    show setL (argC b++argsC l) _ _=argC b++argsC (l.set i a)
    rw [← this,show 0+(i+1) * 2=(argC b).length+(0+i * 2) by simp [argC];omega]
    exact setL_app2 (argC b) (argsC l) _ _
theorem SolAt.fa {h:Hp} {N sb fb ib nb:Nat} {al:List Nat} {n:Nat} {s:SolS} (o:SolAt h N sb fb ib nb al n s) {i a:Nat} {l:List FactS} (ha:al[i]?=some a) (hl:s.ins[i]?=some l):FaAt h (if l=[] then none else some ⟨a,0,none⟩) l:=by
  by_cases e:l=[]
  · rw [if_pos e,e];exact .none
  · rw [if_neg e]
    exact .some (o.row i a l ha hl e).2 (Nat.le_trans o.rw (o.row i a l ha hl e).1)
structure KeepH (h:Hp) (N:Nat) (B:Hp):Prop where
  off:OffS (fun j=>N≤j) h B
  oth:∀ j x,h.m j=some x→x.elem≠47→x.elem≠64→x.elem≠43→B.m j=some x
structure FunI (B:Hp) (fb rb:Nat) (FC:List Value):Prop where
  f:B.m fb=some ⟨⟨FC⟩,35⟩
  r:B.m rb=some ⟨⟨cellsV (.agg ⟨funcC ⟨⟨#[]⟩,0,0,0,[],[]⟩ none 0 none 0 none 0⟩)⟩,35⟩
theorem set_self (h:Hp) (i:Nat) (b:Blk):(h.set i b).m i=some b:=by show (if i=i then _ else _)=_;rw [if_pos rfl]
theorem insVC_args {x:InsV} {a b:ArgS} {g:ArgS→ArgS}:insVC ({ x.1 with a:=a,b:=b,args:=x.1.args.map g },x.2)=insC { x.1 with a:=a,b:=b } (insA x) (insK x):=by
  unfold insVC insC insA insK
  rw [rowVl_eq]
  simp
theorem insVC_one (x:InsV):(cellsV (.agg ⟨insVC x⟩)).all (·.oneCell')=true:=by rw [insVC_eq];rfl
theorem insF_args (l:List FactS) (x:InsS):(insF l x).args=x.args.map (argF l)∨(insF l x).args=[]:=by
  unfold insF simpleF knownF
  repeat' split
  all_goals first|exact .inl rfl|exact .inr rfl
set_option maxHeartbeats 2000000 in
set_option maxRecDepth 100000 in
theorem ffunc_ex (h:Hp) (N bb:Nat) (bv:List BV) (f:FuncS) (m:Nat) (A1:Option Addr) (c1:Nat) (A2:Option Addr) (c2 c3:Nat) (hown:OwnA h N bb bv) (hm:m≤1000000) (hregs:f.regs=(m:Int)) (hok:OkL f.regs (sL bv)) (hins:∀ b∈sL bv,∀ x∈b.ins,x.ok∧x.dst < (m:Int)) :
    EX Try.prog 38 [.agg ⟨funcC { f with blocks:=sL bv } A1 c1 A2 c2 (some ⟨bb,0,none⟩) c3⟩] h (fun v h'=>∃ bv',v=.agg ⟨funcC { f with blocks:=sL bv' } A1 c1 A2 c2 (some ⟨bb,0,none⟩) c3⟩∧OwnA h' N bb bv'∧FoldS f.regs (sL bv) (sL bv')∧OffS (fun j=>N≤j) h h'∧∀ j x,h.m j=some x→x.elem≠47→x.elem≠64→x.elem≠43→h'.m j=some x):=by
  refine EX.intro (fn:=Try.f38) (c:=(Try.f38.body.getD .skip)) Try.func38 (by kernel_rfl) Try.ntmps38 (by kernel_rfl) fun π s0=>?_
  conv=>arg 2;whnf
  have hd:=s0.dom
  obtain ⟨n,hn⟩:∃ n,bv.length=n:=⟨_,rfl⟩
  have hnp:0 < n:=by have:=hok.pos;rw [sL_length] at this;omega
  have hnl:n≤100000:=by have:=hok.len;rw [sL_length] at this;omega
  obtain ⟨FC,hFC⟩:∃ FC:List Value,FC=[.string f.name,.int .i64 f.params,.slice A1 f.secret c1,.int .i64 (m:Int),.slice A2 f.slots.length c2,.slice (some ⟨bb,0,none⟩) n c3]:=⟨_,rfl⟩
  have hfc:funcC { f with blocks:=sL bv } A1 c1 A2 c2 (some ⟨bb,0,none⟩) c3=FC:=by rw [hFC];unfold funcC;rw [sL_length,hn,← hregs]
  ((with_reducible apply W.seq);repeat (first|((with_reducible apply RS.alloc);iterate 2 exact rfl)|((with_reducible apply RS.box);iterate 3 exact rfl)|((with_reducible apply RS.nil);exact mixed;kernel_rfl)|((with_reducible apply W.reg);kernel_rfl)|(with_reducible apply thenK_n)))
  refine W.absorbX fun B0 π0 a0=>?_
  have hF0:B0.m (π 0)=some ⟨⟨funcC { f with blocks:=sL bv } A1 c1 A2 c2 (some ⟨bb,0,none⟩) c3⟩,35⟩:=a0.loc 0 (Nat.lt_of_lt_of_le Nat.zero_lt_one (Nat.le_succ 1))
  have hfb:h.n≤π 0:=a0.lo 0 (Nat.lt_of_lt_of_le Nat.zero_lt_one (Nat.le_succ 1))
  have hrb:h.n≤π 1:=a0.lo 1 (Nat.lt_succ_self 1)
  have hR0:B0.m (π 1)=some ⟨⟨cellsV (.agg ⟨funcC ⟨⟨#[]⟩,0,0,0,[],[]⟩ none 0 none 0 none 0⟩)⟩,35⟩:=a0.loc 1 (Nat.lt_succ_self 1)
  have hfr:π 0≠π 1:=fun e=>absurd (a0.inj 0 1 (Nat.lt_of_lt_of_le Nat.zero_lt_one (Nat.le_succ 1)) (Nat.lt_succ_self 1) e) (by decide)
  generalize π 0=fb at *
  generalize π 1=rb at *
  have hso:∀ B1,Absb (P:=Try.prog) ⟨B0,π0,0,[]⟩ B1→EX Try.prog 49 [.pointer (some ⟨fb,0,none⟩)] B1 (fun v h'=>∃ sb ib nb al s',v=.pointer (some ⟨sb,0,none⟩)∧SolRun (sL bv) (sol0 (sL bv).length m) s'∧SolI (sL bv) m s'∧GoodS s'∧SolAt h' B1.n sb fb ib nb al (sL bv).length s'∧Old B1 h'):=fun B1 hB1 =>
    solve_ex fb m (some ⟨bb,0,none⟩) c3 (sL bv) hok.pos hok.len hm hok.tgt (fun b hb=>Nat.le_trans (sizeS_le hb) hok.size) hins B1 ⟨⟨_,hB1.up _ _ hF0,by rw [hfc,hFC];rfl,by rw [hfc,hFC,sL_length,hn];rfl⟩,(hown.up fun i b hb=>hB1.up _ _ (a0.up _ _ hb)).own.sl⟩
  rw [hfc,hFC] at hF0
  have hF:=hF0
  have hFn:=a0.dom _ _ hF
  ((with_reducible apply W.seq);repeat (fail))
  ((with_reducible apply W.seq);repeat (first|((with_reducible apply RS.load1B);(iterate 3 exact rfl);exact hF;exact hFn;exact rfl)|((with_reducible apply RS.cmpF);(iterate 4 exact rfl);(simp only [cmpN];omega))|((with_reducible first|apply RS.lenSl|apply RS.fieldAddr);iterate 3 exact rfl)|((with_reducible apply RS.nil);exact mixed;kernel_rfl)|((with_reducible apply W.reg);kernel_rfl)|(with_reducible first|apply W.skip|apply thenK_n)|((with_reducible apply W.condF);kernel_rfl;exact rfl)))
  ((with_reducible apply W.seq);repeat (first|((with_reducible apply RS.callEx);(iterate 3 exact rfl);intro B1 hB1;refine ⟨_,hso B1 hB1,?_⟩;rintro v H1 π1 ⟨sb,ib,nb,al,s,rfl,hrun,hI,hG,hO1,hold1⟩ sH1 hle1)|((with_reducible apply RS.assign);iterate 3 exact rfl)|((with_reducible apply RS.nil);exact mixed;kernel_rfl)|((with_reducible apply W.reg);kernel_rfl)|(with_reducible apply thenK_n)))
  ((with_reducible apply W.seq);repeat (fail))
  have old1:Old h H1:=(a0.oldH.trans hB1.oldH).trans hold1
  have hF1:=hold1.up hB1.dom _ _ (hB1.up _ _ hF0)
  have hR1:=hold1.up hB1.dom _ _ (hB1.up _ _ hR0)
  have hN:N≤h.n:=Nat.le_trans hown.ge (Nat.le_of_lt (hd _ _ hown.m))
  obtain ⟨N1,hN1⟩:∃ N1,B1.n=N1:=⟨_,rfl⟩
  have hNN:N≤N1:=by rw [← hN1];exact Nat.le_trans hN (Nat.le_trans a0.oldH.1 hB1.oldH.1)
  have hhN1:h.n≤N1:=by rw [← hN1];exact Nat.le_trans a0.oldH.1 hB1.oldH.1
  rw [sL_length,hn,hN1] at hO1
  obtain ⟨Fv,hFv⟩:∃ Fv,foldVs bv s.ins s.seen=Fv:=⟨_,rfl⟩
  have hFl:Fv.length=bv.length:=by rw [← hFv];exact foldVs_length _ _ _
  have hil:s.ins.length=n:=by have:=hI.ins;rw [sL_length,hn] at this;exact this
  have hsl:s.seen.length=n:=by have:=hI.seen;rw [sL_length,hn] at this;exact this
  have hF:=hF1
  have hFn:=sH1.dom _ _ hF
  repeat (first|((with_reducible apply RS.load1B);(iterate 3 exact rfl);exact hF;exact hFn;exact rfl)|((with_reducible first|apply RS.move|apply RS.lenSl|apply RS.fieldAddr);iterate 3 exact rfl)|((with_reducible apply RS.nil);exact mixed;kernel_rfl)|(with_reducible first|apply W.seq|apply W.block|apply thenK_n)|((with_reducible apply W.reg);kernel_rfl))
  refine W.loopN (X:=Nat × List (List FactS)) (fun x=>[(1,.pointer (some ⟨fb,0,none⟩)),(2,.pointer (some ⟨rb,0,none⟩)),(3,.pointer (some ⟨sb,0,none⟩)),(21,.slice (some ⟨bb,0,none⟩) n c3),(22,.int .i64 (n:Int)),(23,.int .i64 (x.1:Int))])
    (fun x B=>x.1≤n∧OwnA B N bb (mixL Fv bv x.1)∧SolAt B N1 sb fb ib nb al n ⟨x.2,s.seen,s.work⟩∧(∀ j,x.1≤j→x.2[j]?=s.ins[j]?)∧FunI B fb rb FC∧KeepH h N B) (fun x=>n - x.1)
    (fun B' x=>⟨(0,s.ins),?_,⟨Nat.zero_le _,?_,hO1.up x.up,fun _ _=>rfl,⟨by rw [hFC];exact x.up _ _ hF1,x.up _ _ hR1⟩,(old1.trans x.oldH).off,fun j y hy _ _ _=>(old1.trans x.oldH).up hd j y hy⟩⟩) ?_
  · (repeat' (first|exact trivial|exact rfl|apply And.intro));done
  · dsimp only
    rw [mixL_zero]
    exact hown.up ((old1.trans x.oldH).up hd)
  rintro ⟨i,ins⟩ B π2 sB ⟨hi,hA,hO,hsame,hFI,hK⟩
  dsimp only at hi hA hO hsame hFI hK ⊢
  obtain ⟨AS,capS,hS,hstkS,hAS⟩:=hO.stk
  have hSn:=sB.dom _ _ hS
  have hF:=hFI.f
  rw [hFC] at hF
  have hFn:=sB.dom _ _ hF
  by_cases hlt:i < n
  · obtain ⟨b,hb⟩:∃ b,bv[i]?=some b:=⟨_,List.getElem?_eq_getElem (by omega)⟩
    obtain ⟨l0,hl0⟩:∃ l,s.ins[i]?=some l:=⟨_,List.getElem?_eq_getElem (by omega)⟩
    have hNb:B.m nb=some ⟨⟨s.seen.map .bool⟩,4⟩:=hO.hn
    have hNbn:=sB.dom _ _ hNb
    rcases seen_some (l:=s.seen) (k:=i) (by omega) with hseen|hseen
    · obtain ⟨qa,hqa⟩:∃ a,al[i]?=some a:=⟨_,List.getElem?_eq_getElem (by rw [hO.alen];exact hlt)⟩
      have hl0m:l0.length=m:=hI.wid _ _ hl0 hseen
      have hrow:=rowsV_get hqa ((hsame i (Nat.le_refl _)).trans hl0)
      obtain ⟨A6,c6,hv6,hA6⟩:∃ A6 c6,rowVl 2 qa l0=.slice A6 m c6∧A6=if l0=[] then none else some ⟨qa,0,none⟩:=by
        rw [rowVl_eq,hl0m];exact ⟨_,_,rfl,rfl⟩
      rw [hv6] at hrow
      have hIb:=hO.hi
      have hIbn:=sB.dom _ _ hIb
      have hbi:(mixL Fv bv i)[i]?=some b:=by rw [mixL_at hFl];exact hb
      have hBm:=hA.m
      have hBmn:=sB.dom _ _ hBm
      obtain ⟨Ab,cb,hvb,hAb⟩:∃ Ab cb,rowVl 12 b.r b.ins=.slice Ab b.ins.length cb∧Ab=if b.ins=[] then none else some ⟨b.r,0,none⟩:=by
        rw [rowVl_eq];exact ⟨_,_,rfl,rfl⟩
      have hFi:Fv[i]?=some (blockV l0 b):=by rw [← hFv,foldVs_get hb hl0 hseen,if_pos rfl]
      have hbl:b.ins.length≤1000000:=by
        have h1:=Nat.le_trans (sizeS_le (List.mem_of_getElem? (sL_at hb))) hok.size
        have h2:b.s.ins.length=b.ins.length:=by simp [BV.s]
        omega
      have hbs:b.s∈sL bv:=List.mem_of_getElem? (sL_at hb)
      have hfit0:=hG.fit _ (List.mem_of_getElem? hl0)
      repeat (first|((with_reducible apply RS.load1B);(iterate 3 exact rfl);first|exact hS;exact hSn;exact rfl|exact hNb;exact hNbn;exact bools_get hseen)|((with_reducible apply RS.indexAddrS);(iterate 5 exact rfl);exact hlt)|((with_reducible apply RS.load1B);(iterate 3 exact rfl);first|exact hIb;exact hIbn;exact cells_at hrow|exact hBm;exact hBmn;exact bv_cell hbi (o:=0) (by omega) (by decide) (congrArg some hvb)|exact hF;exact hFn;exact rfl)|((with_reducible first|apply RS.nilCheck|apply RS.move|apply RS.assign|apply RS.lenSl|apply RS.not|apply RS.fieldAddr);iterate 3 exact rfl)|((with_reducible apply RS.cmpT);(iterate 4 exact rfl);(simp only [cmpP];omega))|((with_reducible apply RS.nil);exact mixed;kernel_rfl)|(with_reducible first|apply W.seq|apply W.block|apply W.skip|apply thenK_n)|((with_reducible apply W.reg);kernel_rfl)|((with_reducible apply W.condT);kernel_rfl;exact rfl)|((with_reducible apply W.condF);kernel_rfl;exact rfl))
      refine W.loopN (X:=Nat) (fun k=>[(1,.pointer (some ⟨fb,0,none⟩)),(2,.pointer (some ⟨rb,0,none⟩)),(3,.pointer (some ⟨sb,0,none⟩)),(21,.slice (some ⟨bb,0,none⟩) n c3),(22,.int .i64 (n:Int)),(23,.int .i64 (i:Int)),(4,.int .i64 (i:Int)),(5,.pointer (some ⟨bb,0+i * 9,none⟩)),(6,.slice A6 m c6),(48,.slice Ab b.ins.length cb),(49,.int .i64 (b.ins.length:Int)),(50,.int .i64 (k:Int))])
        (fun k B=>k≤b.ins.length∧OwnA B N bb ((mixL Fv bv i).set i { b with ins:=mixL (insVs l0 b.ins) b.ins k })∧SolAt B N1 sb fb ib nb al n ⟨ins.set i (((b.ins.take k).map (·.1)).foldl stepF l0),s.seen,s.work⟩∧FunI B fb rb FC∧KeepH h N B) (fun k=>b.ins.length - k)
        (fun B' x=>⟨0,?_,⟨Nat.zero_le _,?_,?_,⟨x.up _ _ hFI.f,x.up _ _ hFI.r⟩,hK.off.same x.oldH.off,fun j y h1 h2 h3 h4=>x.up _ _ (hK.oth j y h1 h2 h3 h4)⟩⟩) ?_
      · (repeat' (first|exact trivial|exact rfl|apply And.intro));done
      · rw [mixL_zero,set_same hbi];exact hA.up x.up
      · have:ins.set i (((b.ins.take 0).map (·.1)).foldl stepF l0)=ins:=set_same ((hsame i (Nat.le_refl _)).trans hl0)
        rw [this];exact hO.up x.up
      rintro k B3 π3 sB3 ⟨hk,hA3,hO3,hFI3,hK3⟩
      by_cases hkl:k < b.ins.length
      · obtain ⟨x,hx⟩:∃ x,b.ins[k]?=some x:=⟨_,List.getElem?_eq_getElem hkl⟩
        have hbn:b.ins≠[]:=by intro e;rw [e] at hkl;exact absurd hkl (Nat.not_lt_zero _)
        have hvl:(insVs l0 b.ins).length=b.ins.length:=insVs_length _ _
        obtain ⟨bk,hbk⟩:∃ bk:BV,bk={ b with ins:=mixL (insVs l0 b.ins) b.ins k }:=⟨_,rfl⟩
        rw [← hbk] at hA3
        have hbw:((mixL Fv bv i).set i bk)[i]?=some bk:=by rw [List.getElem?_set,if_pos rfl,if_pos (by rw [mixL_length hFl];omega)]
        have hbkr:bk.r=b.r:=by rw [hbk]
        have hbki:bk.ins=mixL (insVs l0 b.ins) b.ins k:=by rw [hbk]
        have hbkx:bk.ins[k]?=some x:=by rw [hbki,mixL_at hvl];exact hx
        have hbkn:bk.ins≠[]:=by intro e;rw [e] at hbkx;simp at hbkx
        obtain ⟨hrN,hrow3⟩:=hA3.row bk (List.mem_of_getElem? hbw) hbkn
        rw [hbkr] at hrN hrow3
        have harg3:=fun hn=>hA3.arg bk (List.mem_of_getElem? hbw) x (List.mem_of_getElem? hbkx) hn
        have hrow3n:=sB3.dom _ _ hrow3
        obtain ⟨hXv0,hXl⟩:=flat_take (ins_wid bk.ins) (i:=k) (x:=insVC x) (by rw [List.getElem?_map,hbkx];rfl)
        obtain ⟨Ax,cx,hxc,hAx,hcx⟩:∃ Ax cx,insVC x=insC x.1 Ax cx∧Ax=insA x∧cx=insK x:=⟨_,_,insVC_eq x,rfl,rfl⟩
        have hXv:takeV (0+k * 12) 12 (bk.ins.map insVC).flatten=insC x.1 Ax cx:=by rw [Nat.zero_add,hXv0,hxc]
        have hXl:0+k * 12+12≤(bk.ins.map insVC).flatten.length:=by omega
        rw [if_neg hbn] at hAb
        subst hAb
        obtain ⟨lk,hlk⟩:∃ lk,((b.ins.take k).map (·.1)).foldl stepF l0=lk:=⟨_,rfl⟩
        rw [hlk] at hO3
        have hxs:x.1∈b.s.ins:=List.mem_map_of_mem (List.mem_of_getElem? hx)
        obtain ⟨hxok,hxd⟩:=hins _ hbs _ hxs
        have hlkm:lk.length=m:=by rw [← hlk,stepsF_length];exact hl0m
        have hlkf:FitF lk:=by
          rw [← hlk]
          refine stepsF_fit _ _ hfit0 fun y hy=>?_
          obtain ⟨z,hz,rfl⟩:=List.mem_map.1 hy
          exact (hins _ hbs _ (List.mem_map_of_mem (List.mem_of_mem_take hz))).1
        have hfa3:FaAt B3 A6 lk:=by
          have:=hO3.fa hqa (l:=lk) (by show (ins.set i lk)[i]?=_;rw [List.getElem?_set,if_pos rfl,if_pos (by have:=hO.ilen;dsimp only at this;omega)])
          rw [hA6]
          by_cases e:l0=[]
          · have:lk=[]:=List.length_eq_zero_iff.1 (by rw [hlkm,← hl0m,e];rfl)
            rw [if_pos e,this];exact .none
          · have:lk≠[]:=fun e'=>e (List.length_eq_zero_iff.1 (by rw [hl0m,← hlkm,e'];rfl))
            rw [if_neg e];rw [if_neg this] at *;assumption
        ((with_reducible apply W.seq);repeat (first|((with_reducible apply RS.cmpT);(iterate 4 exact rfl);(simp only [cmpP];omega))|((with_reducible apply RS.nil);exact mixed;kernel_rfl)|((with_reducible apply W.reg);kernel_rfl)|(with_reducible apply thenK_n)))
        ((with_reducible apply W.seq);repeat (first|(with_reducible first|apply W.skip|apply thenK_n)|((with_reducible apply W.condT);kernel_rfl;exact rfl)))
        ((with_reducible apply W.seq);repeat (first|(with_reducible apply W.block)))
        ((with_reducible apply W.seq);repeat (first|((with_reducible apply RS.indexAddrS);(iterate 5 exact rfl);exact hkl)|((with_reducible apply RS.loadNB);(iterate 3 exact rfl);exact hrow3;exact hrow3n;exact hXl;exact hXv)|((with_reducible first|apply RS.move|apply RS.assign);iterate 3 exact rfl)|((with_reducible apply RS.store);(iterate 5 exact rfl);exact Nat.le_of_ble_eq_true rfl;iterate 3 exact rfl)|((with_reducible apply RS.alloc);iterate 2 exact rfl)|((with_reducible apply RS.nil);exact mixed;kernel_rfl)|((with_reducible apply W.reg);kernel_rfl)|(with_reducible apply thenK_n)))
        ((with_reducible apply W.seq);repeat (first|((with_reducible apply RS.store);(iterate 5 exact rfl);exact Nat.le_of_ble_eq_true rfl;iterate 3 exact rfl)|((with_reducible apply RS.alloc);iterate 2 exact rfl)|((with_reducible apply RS.build);iterate 4 exact rfl)|((with_reducible apply RS.nil);exact mixed;kernel_rfl)|((with_reducible apply W.reg);kernel_rfl)|(with_reducible apply thenK_n)))
        refine W.absorbX fun C π4 a4=>?_
        have hX0:C.m (π3 0)=some ⟨⟨insC x.1 Ax cx⟩,64⟩:=a4.loc 0 (Nat.lt_of_lt_of_le Nat.zero_lt_one (Nat.le_succ 1))
        have hY0:C.m (π3 1)=some ⟨⟨factC anyF⟩,111⟩:=a4.loc 1 (Nat.lt_succ_self 1)
        have hxg:B3.n≤π3 0:=a4.lo 0 (Nat.lt_of_lt_of_le Nat.zero_lt_one (Nat.le_succ 1))
        have hyg:B3.n≤π3 1:=a4.lo 1 (Nat.lt_succ_self 1)
        generalize π3 0=xb at *
        generalize π3 1=yb at *
        have hrw3:=sB3.rw
        have hxw:rwM≤xb:=Nat.le_trans hrw3 hxg
        have hyw:rwM≤yb:=Nat.le_trans hrw3 hyg
        have hX:=hX0
        have hXn:=a4.dom _ _ hX
        have hY:=hY0
        have hYn:=a4.dom _ _ hY
        have hres:∀ H:Hp,(∀ i b,C.m i=some b→H.m i=some b)→TF Try.prog 50 ⟨[.slice A6 m c6,.agg ⟨insC x.1 Ax cx⟩]⟩ H (.agg ⟨factC (resultF lk x.1)⟩) H:=fun H hu=>by
          have:=result_tf lk A6 c6 x.1 Ax cx (by rw [hlkm];omega) hlkf hxok H (hfa3.up fun i b hb=>hu _ _ (a4.up _ _ hb))
          rw [hlkm] at this
          exact this
        with_reducible apply W.seq
        refine W.joinNT (X:=Unit) (fun _=>[(1,.pointer (some ⟨fb,0,none⟩)),(2,.pointer (some ⟨rb,0,none⟩)),(3,.pointer (some ⟨sb,0,none⟩)),(21,.slice (some ⟨bb,0,none⟩) n c3),(22,.int .i64 (n:Int)),(23,.int .i64 (i:Int)),(4,.int .i64 (i:Int)),(5,.pointer (some ⟨bb,0+i * 9,none⟩)),(6,.slice A6 m c6),(48,.slice (some ⟨b.r,0,none⟩) b.ins.length cb),(49,.int .i64 (b.ins.length:Int)),(50,.int .i64 (k:Int)),(7,.int .i64 (k:Int)),(8,.pointer (some ⟨xb,0,none⟩)),(9,.pointer (some ⟨yb,0,none⟩))])
          (fun _ B=>Old B3 B∧B.m xb=some ⟨⟨insC x.1 Ax cx⟩,64⟩∧B.m yb=some ⟨⟨factC (resF lk x.1)⟩,111⟩) ?_ ?_
        · repeat (first|((with_reducible apply RS.load1B);(iterate 3 exact rfl);exact hX;exact hXn;exact rfl)|((with_reducible apply RS.cmpC);iterate 5 exact rfl)|((with_reducible apply RS.fieldAddr);iterate 3 exact rfl)|((with_reducible apply RS.nil);exact mixed;kernel_rfl)|(with_reducible first|apply W.seq|apply thenK_n)|((with_reducible apply W.reg);kernel_rfl))
          repeat' ((first|(((with_reducible apply RS.splitD);iterate 2 exact rfl)<;>intro _)|((((with_reducible apply RS.splitG);iterate 2 exact rfl)<;>intro _)<;>(fail_if_success cases ‹true=false›)<;>(fail_if_success cases ‹false=true›))|(((with_reducible apply W.condD);exact rfl)<;>intro _)|((((with_reducible apply W.cond);exact rfl)<;>intro _)<;>(fail_if_success cases ‹true=false›)<;>(fail_if_success cases ‹false=true›)))<;>repeat (first|((with_reducible apply RS.loadNB);(iterate 3 exact rfl);exact hX;exact hXn;exact Nat.le_of_ble_eq_true rfl;exact rfl)|((with_reducible apply RS.callB);(iterate 3 exact rfl);exact fun H hH=>hres H (base_up a4.dom hH);exact Nm_free (by simp [factC]))|((with_reducible apply RS.storeB);(iterate 3 exact rfl);exact hY;exact hYn;exact hyw;exact Nat.le_of_ble_eq_true rfl;iterate 3 exact rfl)|((with_reducible apply RS.move);iterate 3 exact rfl)|((with_reducible apply RS.nil);exact mixed;kernel_rfl)|((with_reducible apply W.reg);kernel_rfl)|(with_reducible apply W.skip)))
          · refine joinN_n rfl fun B' y=>⟨(),?_,(a4.oldH.off.trans (S:=fun j=>B3.n≤j) ((OffS.set C yb _).mono (T:=fun j=>B3.n≤j) fun j _ e=>by rw [e];exact hyg) fun j _ e=>e).old (fun j hj e=>by omega) |>.trans y.oldH,y.up _ _ ?_,y.up _ _ ?_⟩
            · (repeat' (first|exact trivial|exact rfl|apply And.intro));done
            · show (if xb=yb then _ else C.m xb)=_
              rw [if_neg (ne_of_elem hX hY (by simp))];exact hX
            · show (if yb=yb then _ else _)=_
              rw [if_pos rfl]
              have e:resF lk x.1=resultF lk x.1:=by unfold resF;rw [if_pos (by assumption)]
              rw [e];rfl
          · refine joinN_n rfl fun B' y=>⟨(),?_,a4.oldH.trans y.oldH,y.up _ _ hX,?_⟩
            · (repeat' (first|exact trivial|exact rfl|apply And.intro));done
            · have e:resF lk x.1=anyF:=by unfold resF;rw [if_neg (by assumption)]
              rw [e];exact y.up _ _ hY
        rintro ⟨⟩ C1 π5 sC1 ⟨old31,hX,hY⟩
        have hXn:=sC1.dom _ _ hX
        have hYn:=sC1.dom _ _ hY
        have hd3:=sB3.dom
        have hfa5:=hfa3.up (old31.up hd3)
        have hdc:=sC1.dom
        have harg:∀ (a:ArgS) (H:Hp),(∀ i b,C1.m i=some b→H.m i=some b)→TF Try.prog 51 ⟨[.slice A6 m c6,.agg ⟨argC a⟩]⟩ H (.agg ⟨argC (argF lk a)⟩) H:=fun a H hu=>by
          have:=farg_tf lk A6 c6 a (by rw [hlkm];omega) H (hfa5.up hu)
          rw [hlkm] at this
          exact this
        ((with_reducible apply W.seq);repeat (first|((with_reducible apply RS.loadNB);(iterate 3 exact rfl);exact hX;exact hXn;exact Nat.le_of_ble_eq_true rfl;exact rfl)|((with_reducible apply RS.storeB);(iterate 3 exact rfl);exact hX;exact hXn;exact hxw;exact Nat.le_of_ble_eq_true rfl;iterate 3 exact rfl)|((with_reducible apply RS.callB);(iterate 3 exact rfl);exact fun H hH=>harg _ H (base_up hdc hH);exact Nm_free (by simp [argC]))|((with_reducible apply RS.storeB);(iterate 3 exact rfl);exact set_self _ _ _;exact hXn;exact hxw;exact Nat.le_of_ble_eq_true rfl;iterate 3 exact rfl)|((with_reducible first|apply RS.move|apply RS.fieldAddr);iterate 3 exact rfl)|((with_reducible apply RS.nil);exact mixed;kernel_rfl)|((with_reducible apply W.reg);kernel_rfl)|(with_reducible apply thenK_n)))
        refine W.absorbX fun C2 π6 a6=>?_
        have hX2:C2.m xb=some ⟨⟨insC { x.1 with a:=argF lk x.1.a,b:=argF lk x.1.b } Ax cx⟩,64⟩:=a6.up xb _ (set_self _ _ _)
        have hxy:yb≠xb:=ne_of_elem hY hX (by simp)
        have hY2:C2.m yb=some ⟨⟨factC (resF lk x.1)⟩,111⟩:=a6.up yb _ (by
          show (if yb=xb then _ else (if yb=xb then _ else C1.m yb))=_
          rw [if_neg hxy,if_neg hxy];exact hY)
        have old32:Old B3 C2:=oldM old31 (N:=B3.n) ((((OffS.set C1 xb _).trans (S:=fun j=>j=xb) (OffS.set _ xb _) fun j _ e=>e).same a6.oldH.off).mono (T:=fun j=>B3.n≤j) (fun j _ e=>by rw [e];exact hxg)) (Nat.le_refl _)
        clear hX hXn hY hYn
        have hX:=hX2
        have hXn:=a6.dom _ _ hX
        have hmap:(x.1.args.map (argF lk)).length=x.1.args.length:=List.length_map _
        have hnargs:x.1.args.length≤1000000:=(hok.fit _ hbs _ hxs).1
        repeat (first|((with_reducible apply RS.load1B);(iterate 3 exact rfl);exact hX;exact hXn;exact rfl)|((with_reducible first|apply RS.move|apply RS.lenSl|apply RS.fieldAddr);iterate 3 exact rfl)|((with_reducible apply RS.nil);exact mixed;kernel_rfl)|(with_reducible first|apply W.seq|apply W.block|apply thenK_n)|((with_reducible apply W.reg);kernel_rfl))
        refine W.loopN (X:=Nat) (fun j=>[(1,.pointer (some ⟨fb,0,none⟩)),(2,.pointer (some ⟨rb,0,none⟩)),(3,.pointer (some ⟨sb,0,none⟩)),(21,.slice (some ⟨bb,0,none⟩) n c3),(22,.int .i64 (n:Int)),(23,.int .i64 (i:Int)),(4,.int .i64 (i:Int)),(5,.pointer (some ⟨bb,0+i * 9,none⟩)),(6,.slice A6 m c6),(48,.slice (some ⟨b.r,0,none⟩) b.ins.length cb),(49,.int .i64 (b.ins.length:Int)),(50,.int .i64 (k:Int)),(7,.int .i64 (k:Int)),(8,.pointer (some ⟨xb,0,none⟩)),(9,.pointer (some ⟨yb,0,none⟩)),(73,.slice Ax x.1.args.length cx),(74,.int .i64 (x.1.args.length:Int)),(75,.int .i64 (j:Int))])
          (fun j B=>j≤x.1.args.length∧OffS (fun p=>x.1.args≠[]∧p=x.2) B3 B∧B.m xb=some ⟨⟨insC { x.1 with a:=argF lk x.1.a,b:=argF lk x.1.b } Ax cx⟩,64⟩∧B.m yb=some ⟨⟨factC (resF lk x.1)⟩,111⟩∧(x.1.args≠[]→B.m x.2=some ⟨⟨argsC (mixL (x.1.args.map (argF lk)) x.1.args j)⟩,43⟩)) (fun j=>x.1.args.length - j)
          (fun B' y=>⟨0,?_,⟨Nat.zero_le _,(old32.trans y.oldH).off,y.up _ _ hX2,y.up _ _ hY2,fun hn=>?_⟩⟩) ?_
        · (repeat' (first|exact trivial|exact rfl|apply And.intro));done
        · rw [mixL_zero];exact (old32.trans y.oldH).up hd3 _ _ (harg3 hn).2
        rintro j B7 π7 sB7 ⟨hj,off7,hX7,hY7,hV7⟩
        clear hX hXn
        have hX:=hX7
        have hXn:=sB7.dom _ _ hX
        have keep7:∀ {p:Nat} {y:Blk},B3.m p=some y→y.elem≠43→B7.m p=some y:=fun {p y} hy he=>by
          rw [off7.2 p (hd3 p y hy) (fun e=>ne_of_elem hy (harg3 e.1).2 he e.2)];exact hy
        have hfa7:FaAt B7 A6 lk:=by
          cases hfa3 with
          | none=>exact .none
          | some hm1 hr1=>exact .some (keep7 hm1 (by simp)) hr1
        have hdc:=sB7.dom
        have harg:∀ (a:ArgS) (H:Hp),(∀ i b,B7.m i=some b→H.m i=some b)→TF Try.prog 51 ⟨[.slice A6 m c6,.agg ⟨argC a⟩]⟩ H (.agg ⟨argC (argF lk a)⟩) H:=fun a H hu=>by
          have:=farg_tf lk A6 c6 a (by rw [hlkm];omega) H (hfa7.up hu)
          rw [hlkm] at this
          exact this
        by_cases hjl:j < x.1.args.length
        · have han:x.1.args≠[]:=by intro e;rw [e] at hjl;exact absurd hjl (Nat.not_lt_zero _)
          obtain ⟨aj,haj⟩:∃ a,x.1.args[j]?=some a:=⟨_,List.getElem?_eq_getElem hjl⟩
          have hV:=hV7 han
          have hVn:=sB7.dom _ _ hV
          have hVw:rwM≤x.2:=Nat.le_trans hA3.rw (harg3 han).1
          have hgj:(mixL (x.1.args.map (argF lk)) x.1.args j)[j]?=some aj:=by rw [mixL_at hmap];exact haj
          have hgl:(mixL (x.1.args.map (argF lk)) x.1.args j).length=x.1.args.length:=mixL_length hmap j
          have hVl:0+j * 2+2≤(argsC (mixL (x.1.args.map (argF lk)) x.1.args j)).length:=by rw [argsC_length,hgl];omega
          have hAx2:Ax=some ⟨x.2,0,none⟩:=by rw [hAx];unfold insA;rw [if_neg han]
          subst hAx2
          repeat (first|((with_reducible apply RS.load1B);(iterate 3 exact rfl);exact hX;exact hXn;exact rfl)|((with_reducible apply RS.callB);(iterate 3 exact rfl);exact fun H hH=>harg _ H (base_up hdc hH);exact Nm_free (by simp [argC]))|((with_reducible apply RS.indexAddrS);(iterate 5 exact rfl);exact hjl)|((with_reducible apply RS.loadNB);(iterate 3 exact rfl);exact hV;exact hVn;exact hVl;exact argsC_at hgj)|((with_reducible apply RS.storeB);(iterate 3 exact rfl);exact hV;exact hVn;exact hVw;exact hVl;iterate 3 exact rfl)|((with_reducible first|apply RS.move|apply RS.assign|apply RS.fieldAddr);iterate 3 exact rfl)|((with_reducible apply RS.cmpT);(iterate 4 exact rfl);(simp only [cmpP];omega))|((with_reducible apply RS.add1);(iterate 4 exact rfl);omega)|((with_reducible apply RS.loadN);(iterate 5 exact rfl);exact Nat.le_of_ble_eq_true rfl)|((with_reducible apply RS.store);(iterate 5 exact rfl);exact Nat.le_of_ble_eq_true rfl;iterate 3 exact rfl)|((with_reducible apply RS.alloc);iterate 2 exact rfl)|((with_reducible apply RS.nil);exact mixed;kernel_rfl)|(with_reducible first|apply W.seq|apply W.block|apply W.skip|apply thenK_n|apply blockK_n)|((with_reducible apply W.reg);kernel_rfl)|((with_reducible apply W.condT);kernel_rfl;exact rfl))
          refine roundN_n rfl fun B' y=>⟨j+1,?_,⟨hjl,(off7.trans (OffS.set B7 x.2 _) fun p _ e=>⟨han,e⟩).same y.oldH.off,y.up _ _ ?_,y.up _ _ ?_,fun _=>y.up _ _ ?_⟩,by omega⟩
          · (repeat' (first|exact trivial|exact rfl|apply And.intro));done
          · show (if xb=x.2 then _ else B7.m xb)=_
            rw [if_neg (ne_of_elem hX7 hV (by simp))];exact hX7
          · show (if yb=x.2 then _ else B7.m yb)=_
            rw [if_neg (ne_of_elem hY7 hV (by simp))];exact hY7
          · show (if x.2=x.2 then _ else _)=_
            rw [if_pos rfl]
            have e:argsC (mixL (x.1.args.map (argF lk)) x.1.args (j+1))=setL (argsC (mixL (x.1.args.map (argF lk)) x.1.args j)) (0+j * 2) (argC (argF lk aj)):=by
              rw [argsC_set (by rw [hgl];exact hjl),mixL_set hmap (by rw [List.getElem?_map,haj];rfl)]
            rw [e];rfl
        · have hjj:j=x.1.args.length:=by omega
          subst hjj
          rw [mixL_all hmap] at hV7
          have hY:=hY7
          have hYn:=sB7.dom _ _ hY
          ((with_reducible apply W.seq);repeat (first|((with_reducible apply RS.cmpF);(iterate 4 exact rfl);(simp only [cmpN];omega))|((with_reducible apply RS.nil);exact mixed;kernel_rfl)|((with_reducible apply W.reg);kernel_rfl)|(with_reducible apply thenK_n)))
          ((with_reducible apply W.seq);repeat (first|(with_reducible first|apply W.exit|apply thenK_n|apply thenK_e|apply roundN_e)|((with_reducible apply W.condF);kernel_rfl;exact rfl)|((with_reducible apply blockK_hit);exact rfl)))
          with_reducible apply W.seq
          refine W.joinNT (X:=Unit) (fun _=>[(1,.pointer (some ⟨fb,0,none⟩)),(2,.pointer (some ⟨rb,0,none⟩)),(3,.pointer (some ⟨sb,0,none⟩)),(21,.slice (some ⟨bb,0,none⟩) n c3),(22,.int .i64 (n:Int)),(23,.int .i64 (i:Int)),(4,.int .i64 (i:Int)),(5,.pointer (some ⟨bb,0+i * 9,none⟩)),(6,.slice A6 m c6),(48,.slice (some ⟨b.r,0,none⟩) b.ins.length cb),(49,.int .i64 (b.ins.length:Int)),(50,.int .i64 (k:Int)),(7,.int .i64 (k:Int)),(8,.pointer (some ⟨xb,0,none⟩)),(9,.pointer (some ⟨yb,0,none⟩))])
            (fun _ B=>OffS (fun p=>x.1.args≠[]∧p=x.2) B3 B∧B.m xb=some ⟨⟨insVC (knownF lk x.1,x.2)⟩,64⟩∧B.m yb=some ⟨⟨factC (resF lk x.1)⟩,111⟩∧(x.1.args≠[]→B.m x.2=some ⟨⟨argsC (x.1.args.map (argF lk))⟩,43⟩)) ?_ ?_
          · have hno:¬ ((resF lk x.1).kind=1∧pureS x.1.op=true)→insC { x.1 with a:=argF lk x.1.a,b:=argF lk x.1.b } Ax cx=insVC (knownF lk x.1,x.2):=by
              intro e
              unfold knownF
              rw [if_neg e,insVC_args,hAx,hcx]
            repeat' (first|((with_reducible apply RS.load1B);(iterate 3 exact rfl);exact hX;exact hXn;exact rfl)|((with_reducible apply RS.storeB);(iterate 3 exact rfl);exact hX;exact hXn;exact hxw;exact Nat.le_of_ble_eq_true rfl;iterate 3 exact rfl)|((with_reducible apply RS.callP);(iterate 3 exact rfl);exact fun H=>(pure_tf _ H);exact Nm_free (by simp))|((with_reducible apply RS.callB);(iterate 3 exact rfl);exact fun H hH=>(numN_tf _ H);exact Nm_free (by simp))|((with_reducible apply RS.load1B);(iterate 3 exact rfl);exact hY;exact hYn;exact rfl)|((with_reducible first|apply RS.move|apply RS.fieldAddr);iterate 3 exact rfl)|((with_reducible apply RS.pickT);iterate 4 exact rfl)|((with_reducible apply RS.pickF);iterate 4 exact rfl)|((with_reducible apply RS.cmpC);iterate 5 exact rfl)|((with_reducible apply RS.build);iterate 4 exact rfl)|((with_reducible apply RS.skip);iterate 2 exact rfl)|((with_reducible apply RS.nil);exact mixed;kernel_rfl)|(with_reducible first|apply W.seq|apply W.skip|apply thenK_n)|((with_reducible apply W.reg);kernel_rfl)|((with_reducible apply W.condF);kernel_rfl;exact rfl)|(((with_reducible apply RS.splitD);iterate 2 exact rfl)<;>intro _)|((((with_reducible apply RS.splitG);iterate 2 exact rfl)<;>intro _)<;>(fail_if_success cases ‹true=false›)<;>(fail_if_success cases ‹false=true›))|(((with_reducible apply W.condD);exact rfl)<;>intro _)|((((with_reducible apply W.cond);exact rfl)<;>intro _)<;>(fail_if_success cases ‹true=false›)<;>(fail_if_success cases ‹false=true›)))
            · refine joinN_n rfl fun B' y=>⟨(),?_,(off7.trans (OffS.set B7 xb _) fun p hp e=>by omega).same y.oldH.off,y.up _ _ ?_,y.up _ _ ?_,fun hn=>y.up _ _ ?_⟩
              · (repeat' (first|exact trivial|exact rfl|apply And.intro));done
              · show (if xb=xb then _ else _)=_
                rw [if_pos rfl]
                have e:knownF lk x.1=plainI 1 x.1.dst ⟨-1,(resF lk x.1).n⟩:=by unfold knownF;rw [if_pos ⟨by assumption,by assumption⟩]
                rw [e];rfl
              · show (if yb=xb then _ else B7.m yb)=_
                rw [if_neg (ne_of_elem hY7 hX7 (by simp))];exact hY7
              · show (if x.2=xb then _ else B7.m x.2)=_
                rw [if_neg (ne_of_elem (hV7 hn) hX7 (by simp))];exact hV7 hn
            all_goals
              refine joinN_n rfl fun B' y=>⟨(),?_,off7.same y.oldH.off,y.up _ _ ?_,y.up _ _ hY7,fun hn=>y.up _ _ (hV7 hn)⟩
              · (repeat' (first|exact trivial|exact rfl|apply And.intro));done
              · rw [← hno (by simp_all)];exact hX7
          rintro ⟨⟩ C4 π8 sC4 ⟨off8,hX8,hY8,hV8⟩
          clear hX hXn hY hYn
          have hX:=hX8
          have hXn:=sC4.dom _ _ hX
          have hY:=hY8
          have hYn:=sC4.dom _ _ hY
          have keep8:∀ {p:Nat} {y:Blk},B3.m p=some y→y.elem≠43→C4.m p=some y:=fun {p y} hy he=>by
            rw [off8.2 p (hd3 p y hy) (fun e=>ne_of_elem hy (harg3 e.1).2 he e.2)];exact hy
          have hBm:=keep8 hA3.m (by simp)
          have hBmn:=sC4.dom _ _ hBm
          have hvbk:rowVl 12 bk.r bk.ins=.slice (some ⟨b.r,0,none⟩) b.ins.length cb:=by
            rw [← hvb,rowVl_eq,rowVl_eq,if_neg hbkn,if_neg hbkn,if_neg hbn,if_neg hbn,hbkr,hbki,mixL_length hvl]
          have hrow8:=keep8 hrow3 (by simp)
          have hrow8n:=sC4.dom _ _ hrow8
          have hrw8:rwM≤b.r:=Nat.le_trans hA3.rw hrN
          have hfa8:FaAt C4 A6 lk:=by
            cases hfa3 with
            | none=>exact .none
            | some hm1 hr1=>exact .some (keep8 hm1 (by simp)) hr1
          have hkd:(knownF lk x.1).dst=x.1.dst:=by unfold knownF;split<;>rfl
          have hsim:∀ H:Hp,(∀ i b,C4.m i=some b→H.m i=some b)→TF Try.prog 53 ⟨[.agg ⟨insVC (knownF lk x.1,x.2)⟩]⟩ H (.agg ⟨insVC (insF lk x.1,x.2)⟩) H:=fun H hu=>by
            refine TF.dom fun hdH=>?_
            have:=simple_tf (knownF lk x.1) (insA (knownF lk x.1,x.2)) (insK (knownF lk x.1,x.2)) H (fun a ha=>by
              unfold insA at ha
              split at ha
              · cases ha
              · rename_i hne
                injection ha with ha
                rw [← ha]
                have hxa:x.1.args≠[]:=by
                  intro e;apply hne
                  unfold knownF
                  split
                  · rfl
                  · dsimp only;rw [e];rfl
                exact hdH _ _ (hu _ _ (hV8 hxa)))
            rw [simpleV_eq,← insVC_eq (knownF lk x.1,x.2)] at this
            exact this
          have hsetr:setL (bk.ins.map insVC).flatten (0+k * 12) (cellsV (.agg ⟨insVC (insF lk x.1,x.2)⟩))=((bk.ins.set k (insF lk x.1,x.2)).map insVC).flatten:=by
            have:=flat_set (ins_wid bk.ins) (i:=k) (o:=0) (x:=insVC x) (vs:=insVC (insF lk x.1,x.2)) (by rw [List.getElem?_map,hbkx];rfl) (Nat.le_refl _)
            rw [Nat.zero_add]
            rw [Nat.add_zero] at this
            rw [List.map_set]
            exact this
          ((with_reducible apply W.seq);repeat (first|((with_reducible apply RS.indexAddrS);(iterate 5 exact rfl);exact hkl)|((with_reducible apply RS.loadNB);(iterate 3 exact rfl);exact hX;exact hXn;exact Nat.le_of_ble_eq_true rfl;exact rfl)|((with_reducible apply (RS.callB (nv:=none)));(iterate 3 exact rfl);exact fun H hH=>hsim H (base_up sC4.dom hH);exact trivial)|((with_reducible apply RS.load1B);(iterate 3 exact rfl);exact hBm;exact hBmn;exact bv_cell hbw (o:=0) (by omega) (by decide) (congrArg some hvbk))|((with_reducible apply RS.storeB);(iterate 3 exact rfl);exact hrow8;exact hrow8n;exact hrw8;exact hXl;exact rfl;exact insVC_one _;exact hsetr)|((with_reducible first|apply RS.nilCheck|apply RS.move|apply RS.fieldAddr);iterate 3 exact rfl)|((with_reducible apply RS.nil);exact mixed;kernel_rfl)|((with_reducible apply W.reg);kernel_rfl)|(with_reducible apply thenK_n)))
          refine W.absorbX fun C5 π9 a9=>?_
          have hrow9:C5.m b.r=some ⟨⟨((bk.ins.set k (insF lk x.1,x.2)).map insVC).flatten⟩,64⟩:=a9.up _ _ (set_self _ _ _)
          have off9:OffS (fun p=>p=b.r∨(x.1.args≠[]∧p=x.2)) B3 C5:=((off8.mono (T:=fun p=>p=b.r∨(x.1.args≠[]∧p=x.2)) fun p _ e=>.inr e).trans (OffS.set C4 b.r _) fun p _ e=>.inl e).same a9.oldH.off
          have hxbr:xb≠b.r:=fun e=>by omega
          have hX9:C5.m xb=some ⟨⟨insVC (knownF lk x.1,x.2)⟩,64⟩:=a9.up _ _ (by show (if xb=b.r then _ else C4.m xb)=_;rw [if_neg hxbr];exact hX8)
          have keep9:∀ {p:Nat} {y:Blk},C4.m p=some y→y.elem≠64→C5.m p=some y:=fun {p y} hy he=>a9.up _ _ (by
            show (if p=b.r then _ else C4.m p)=_
            rw [if_neg (ne_of_elem hy hrow8 he)];exact hy)
          have hY9:=keep9 hY8 (by simp)
          have hV9:=fun hn=>keep9 (hV8 hn) (by simp)
          have hfa9:FaAt C5 A6 lk:=by
            cases hfa8 with
            | none=>exact .none
            | some hm1 hr1=>exact .some (keep9 hm1 (by simp)) hr1
          clear hX hXn hY hYn
          have hX:=hX9
          have hXn:=a9.dom _ _ hX
          have hY:=hY9
          have hYn:=a9.dom _ _ hY
          refine W.joinNB (X:=Unit) (fun _=>[(1,.pointer (some ⟨fb,0,none⟩)),(2,.pointer (some ⟨rb,0,none⟩)),(3,.pointer (some ⟨sb,0,none⟩)),(21,.slice (some ⟨bb,0,none⟩) n c3),(22,.int .i64 (n:Int)),(23,.int .i64 (i:Int)),(4,.int .i64 (i:Int)),(5,.pointer (some ⟨bb,0+i * 9,none⟩)),(6,.slice A6 m c6),(48,.slice (some ⟨b.r,0,none⟩) b.ins.length cb),(49,.int .i64 (b.ins.length:Int)),(50,.int .i64 (k:Int))])
            (fun _ B=>OffS (fun p=>p=b.r∨(x.1.args≠[]∧p=x.2)∨(l0≠[]∧p=qa)) B3 B∧B.m b.r=some ⟨⟨((bk.ins.set k (insF lk x.1,x.2)).map insVC).flatten⟩,64⟩∧(x.1.args≠[]→B.m x.2=some ⟨⟨argsC (x.1.args.map (argF lk))⟩,43⟩)∧(l0≠[]→B.m qa=some ⟨⟨factsC (stepF lk x.1)⟩,111⟩)) ?_ ?_
          · have hqa5:l0≠[]→A6=some ⟨qa,0,none⟩:=fun e=>by rw [hA6,if_neg e]
            by_cases hdst:0≤x.1.dst
            · have hll:x.1.dst.toNat < lk.length:=by omega
              have hln:l0≠[]:=by intro e;rw [e] at hl0m;rw [hlkm,← hl0m] at hll;exact absurd hll (Nat.not_lt_zero _)
              have hA6q:=hqa5 hln
              subst hA6q
              have hnat:(knownF lk x.1).dst=(x.1.dst.toNat:Int):=by rw [hkd];omega
              have hlm:x.1.dst.toNat < m:=by omega
              cases hfa9 with
              | some hQ hQr =>
                have hQn:=a9.dom _ _ hQ
                have hle:0+x.1.dst.toNat * 2+2≤(factsC lk).length:=by rw [factsC_length];omega
                have hst:stepF lk x.1=lk.set x.1.dst.toNat (resF lk x.1):=by unfold stepF resF;rw [if_pos hdst,if_pos hdst]
                repeat (first|((with_reducible apply RS.load1B);(iterate 3 exact rfl);exact hX;exact hXn;exact rfl)|((with_reducible apply RS.indexAddrS);(iterate 4 exact rfl);exact hnat;exact hlm)|((with_reducible apply RS.loadNB);(iterate 3 exact rfl);exact hY;exact hYn;exact Nat.le_of_ble_eq_true rfl;exact rfl)|((with_reducible apply RS.storeB);(iterate 3 exact rfl);exact hQ;exact hQn;exact hQr;exact hle;iterate 3 exact rfl)|((with_reducible first|apply RS.move|apply RS.fieldAddr);iterate 3 exact rfl)|((with_reducible apply RS.cmpT);(iterate 4 exact rfl);(simp only [cmpP];omega))|((with_reducible apply RS.nil);exact mixed;kernel_rfl)|(with_reducible first|apply W.seq|apply thenK_n|apply blockK_n)|((with_reducible apply W.reg);kernel_rfl)|((with_reducible apply W.condT);kernel_rfl;exact rfl))
                refine joinN_n rfl fun B' y=>⟨(),?_,((off9.mono (T:=fun p=>p=b.r∨(x.1.args≠[]∧p=x.2)∨(l0≠[]∧p=qa)) fun p _ e=>e.elim .inl fun e=>.inr (.inl e)).trans (OffS.set C5 qa _) fun p _ e=>.inr (.inr ⟨hln,e⟩)).same y.oldH.off,y.up _ _ ?_,fun hn=>y.up _ _ ?_,fun _=>y.up _ _ ?_⟩
                · (repeat' (first|exact trivial|exact rfl|apply And.intro));done
                · show (if b.r=qa then _ else C5.m b.r)=_
                  rw [if_neg (ne_of_elem hrow9 hQ (by simp))];exact hrow9
                · show (if x.2=qa then _ else C5.m x.2)=_
                  rw [if_neg (ne_of_elem (hV9 hn) hQ (by simp))];exact hV9 hn
                · show (if qa=qa then _ else _)=_
                  rw [if_pos rfl,hst,← factsC_set hll];rfl
            · have hst:stepF lk x.1=lk:=by unfold stepF;rw [if_neg hdst]
              repeat (first|((with_reducible apply RS.load1B);(iterate 3 exact rfl);exact hX;exact hXn;exact rfl)|((with_reducible apply RS.cmpF);(iterate 4 exact rfl);(simp only [cmpN];omega))|((with_reducible apply RS.fieldAddr);iterate 3 exact rfl)|((with_reducible apply RS.nil);exact mixed;kernel_rfl)|(with_reducible first|apply W.seq|apply W.skip|apply thenK_n|apply blockK_n)|((with_reducible apply W.reg);kernel_rfl)|((with_reducible apply W.condF);kernel_rfl;exact rfl))
              repeat' ((first|(((with_reducible apply RS.splitD);iterate 2 exact rfl)<;>intro _)|((((with_reducible apply RS.splitG);iterate 2 exact rfl)<;>intro _)<;>(fail_if_success cases ‹true=false›)<;>(fail_if_success cases ‹false=true›))|(((with_reducible apply W.condD);exact rfl)<;>intro _)|((((with_reducible apply W.cond);exact rfl)<;>intro _)<;>(fail_if_success cases ‹true=false›)<;>(fail_if_success cases ‹false=true›)))<;>repeat (fail))
              all_goals refine joinN_n rfl fun B' y=>⟨(),?_,(off9.mono (T:=fun p=>p=b.r∨(x.1.args≠[]∧p=x.2)∨(l0≠[]∧p=qa)) fun p _ e=>e.elim .inl fun e=>.inr (.inl e)).same y.oldH.off,y.up _ _ hrow9,fun hn=>y.up _ _ (hV9 hn),fun hn=>?_⟩
              all_goals first
                | (exfalso;omega)
                | skip
              · (repeat' (first|exact trivial|exact rfl|apply And.intro));done
              · rw [hst]
                have hA6q:=hqa5 hn
                subst hA6q
                cases hfa9 with
                | some hQ _=>exact y.up _ _ hQ
          rintro ⟨⟩ C6 π10 sC6 ⟨off10,hrow10,hV10,hQ10⟩
          repeat (first|((with_reducible apply RS.move);iterate 3 exact rfl)|((with_reducible apply RS.add1);(iterate 4 exact rfl);omega)|((with_reducible apply RS.nil);exact mixed;kernel_rfl)|((with_reducible apply W.reg);kernel_rfl))
          have hil3:ins.length=n:=by have:=hO3.ilen;dsimp only at this;rw [List.length_set] at this;exact this
          have keepC:∀ {p:Nat} {y:Blk},B3.m p=some y→p≠b.r→(x.1.args≠[]→p≠x.2)→(l0≠[]→p≠qa)→C6.m p=some y:=fun {p y} hy h1 h2 h3=>by
            rw [off10.2 p (hd3 p y hy) (fun e=>by rcases e with e|e|e;exact h1 e;exact h2 e.1 e.2;exact h3 e.1 e.2)];exact hy
          have hqa3:l0≠[]→N1≤qa∧B3.m qa=some ⟨⟨factsC lk⟩,111⟩:=fun hn=>hO3.row i qa lk hqa (by show (ins.set i lk)[i]?=_;rw [List.getElem?_set,if_pos rfl,if_pos (by omega)]) (fun e=>hn (List.length_eq_zero_iff.1 (by rw [hl0m,← hlkm,e];rfl)))
          have hnext:((b.ins.take (k+1)).map (·.1)).foldl stepF l0=stepF lk x.1:=by
            rw [List.take_add_one,hx,List.map_append,List.foldl_append,hlk];rfl
          have hbset:(mixL Fv bv i).set i { b with ins:=mixL (insVs l0 b.ins) b.ins (k+1) }=((mixL Fv bv i).set i bk).set i { bk with ins:=bk.ins.set k (insF lk x.1,x.2) }:=by
            rw [List.set_set]
            congr 1
            rw [hbk]
            dsimp only
            rw [mixL_set hvl (by rw [insVs_get hx,hlk])]
          refine roundN_n rfl fun B' y=>⟨k+1,?_,⟨hkl,?_,?_,⟨y.up _ _ (keepC hFI3.f (ne_of_elem hFI3.f hrow3 (by simp)) (fun hn=>ne_of_elem hFI3.f (harg3 hn).2 (by simp)) (fun hn=>ne_of_elem hFI3.f (hqa3 hn).2 (by simp))),y.up _ _ (keepC hFI3.r (ne_of_elem hFI3.r hrow3 (by simp)) (fun hn=>ne_of_elem hFI3.r (harg3 hn).2 (by simp)) (fun hn=>ne_of_elem hFI3.r (hqa3 hn).2 (by simp)))⟩,(hK3.off.trans off10 fun p hp e=>?_).same y.oldH.off,fun p z h1 h2 h3 h4=>y.up _ _ ?_⟩,by omega⟩
          · (repeat' (first|exact trivial|exact rfl|apply And.intro));done
          · rw [hbset]
            refine hA3.setX hbw hbkx (insF lk x.1) (fun hn=>?_) (by rw [hbkr];exact y.up _ _ hrow10) (fun hn=>?_) fun p z hz hE h1 h2=>y.up _ _ (keepC hz (by rw [← hbkr];exact h1) h2 fun hn=>?_)
            · intro e
              apply hn
              rcases insF_args lk x.1 with h1|h1
              · rw [h1,e];rfl
              · exact h1
            · rcases insF_args lk x.1 with h1|h1
              · rw [h1]
                exact y.up _ _ (hV10 fun e=>hn (by rw [h1,e];rfl))
              · exact absurd h1 hn
            · exact ne_of_elem hz (hqa3 hn).2 (by rcases hE with e|e|e<;>rw [e]<;>simp)
          · rw [hnext]
            have hE1:∀ {e:TypeId},SolE e→e≠64∧e≠43:=fun {e} h=>by
              rcases h with h|h|h|h|h<;>rw [h]<;>exact ⟨by decide,by decide⟩
            by_cases hln:l0=[]
            · have hlk0:lk=[]:=List.length_eq_zero_iff.1 (by rw [hlkm,← hl0m,hln];rfl)
              have e:stepF lk x.1=lk:=by
                have:=stepF_length lk x.1
                rw [hlk0] at this ⊢
                exact List.length_eq_zero_iff.1 this
              rw [e]
              exact hO3.upE fun p z hz hE=>y.up _ _ (keepC hz (ne_of_elem hz hrow3 (hE1 hE).1) (fun hn=>ne_of_elem hz (harg3 hn).2 (hE1 hE).2) fun hn=>absurd hln hn)
            · have:=hO3.setRow (k:=i) (q:=qa) (l:=lk) (m:=stepF lk x.1) hqa (by show (ins.set i lk)[i]?=_;rw [List.getElem?_set,if_pos rfl,if_pos (by omega)]) (fun e=>hln (List.length_eq_zero_iff.1 (by rw [hl0m,← hlkm,e];rfl))) (stepF_length _ _) (y.up _ _ (hQ10 hln)) fun p z hz hE hp=>y.up _ _ (keepC hz (ne_of_elem hz hrow3 (hE1 hE).1) (fun hn=>ne_of_elem hz (harg3 hn).2 (hE1 hE).2) fun _=>hp)
              dsimp only at this
              rw [List.set_set] at this
              exact this
          · rcases e with e|e|e
            · rw [e];exact hrN
            · rw [e.2];exact (harg3 e.1).1
            · rw [e.2];exact Nat.le_trans hNN (hqa3 e.1).1
          · have hp3:=hd p z h1
            exact keepC (hK3.oth p z h1 h2 h3 h4) (ne_of_elem (hK3.oth p z h1 h2 h3 h4) hrow3 h3) (fun hn=>ne_of_elem (hK3.oth p z h1 h2 h3 h4) (harg3 hn).2 h4) (fun hn e=>by have:=(hqa3 hn).1;omega)
      · have hkk:k=b.ins.length:=by omega
        subst hkk
        have hvl:(insVs l0 b.ins).length=b.ins.length:=insVs_length _ _
        rw [mixL_all hvl] at hA3
        rw [List.take_length] at hO3
        obtain ⟨lo,hlo⟩:∃ lo,(b.ins.map (·.1)).foldl stepF l0=lo:=⟨_,rfl⟩
        rw [hlo] at hO3
        have hlom:lo.length=m:=by rw [← hlo,stepsF_length];exact hl0m
        have hfa3:FaAt B3 A6 lo:=by
          have:=hO3.fa hqa (l:=lo) (by show (ins.set i lo)[i]?=_;rw [List.getElem?_set,if_pos rfl,if_pos (by have:=hO.ilen;dsimp only at this;omega)])
          rw [hA6]
          by_cases e:l0=[]
          · have:lo=[]:=List.length_eq_zero_iff.1 (by rw [hlom,← hl0m,e];rfl)
            rw [if_pos e,this];exact .none
          · have:lo≠[]:=fun e'=>e (List.length_eq_zero_iff.1 (by rw [hl0m,← hlom,e'];rfl))
            rw [if_neg e];rw [if_neg this] at *;assumption
        obtain ⟨b1,hb1⟩:∃ b1:BV,b1={ b with ins:=insVs l0 b.ins }:=⟨_,rfl⟩
        rw [← hb1] at hA3
        have hb1t:b1.term=b.term:=by rw [hb1]
        obtain ⟨bw,hbw⟩:∃ bw,(mixL Fv bv i).set i b1=bw:=⟨_,rfl⟩
        rw [hbw] at hA3
        have hbwi:bw[i]?=some b1:=by rw [← hbw,List.getElem?_set,if_pos rfl,if_pos (by rw [mixL_length hFl];omega)]
        obtain ⟨b2,hb2⟩:∃ b2:BV,b2={ b1 with term:={ b.term with a:=argF lo b.term.a } }:=⟨_,rfl⟩
        obtain ⟨b3,hb3⟩:∃ b3:BV,b3={ b1 with term:=argsT lo b.term }:=⟨_,rfl⟩
        have hbwi2:(bw.set i b2)[i]?=some b2:=by rw [List.getElem?_set,if_pos rfl,if_pos (List.getElem?_eq_some_iff.1 hbwi).1]
        have hBm:=hA3.m
        have hBmn:=sB3.dom _ _ hBm
        have hbbw:rwM≤bb:=Nat.le_trans hA3.rw hA3.ge
        obtain ⟨hTa,hTal⟩:=bv_cells hbwi (o:=3) (n:=2) (off:=0+i * 9+1+2) (by omega) (by decide)
        obtain ⟨hTb,hTbl⟩:=bv_cells hbwi (o:=5) (n:=2) (off:=0+i * 9+1+4) (by omega) (by decide)
        have hTa:takeV (0+i * 9+1+2) 2 (bw.map BV.c).flatten=argC b.term.a:=by rw [hTa,← hb1t];rfl
        have hTb:takeV (0+i * 9+1+4) 2 (bw.map BV.c).flatten=argC b.term.b:=by rw [hTb,← hb1t];rfl
        have hS1:setL (bw.map BV.c).flatten (0+i * 9+1+2) (cellsV (.agg ⟨argC (argF lo b.term.a)⟩))=((bw.set i b2).map BV.c).flatten:=bv_write (o:=3) hbwi (by omega) (show 3+2≤9 by decide) (by rw [hb2,← hb1t];rfl)
        have hS2:setL ((bw.set i b2).map BV.c).flatten (0+i * 9+1+4) (cellsV (.agg ⟨argC (argF lo b.term.b)⟩))=((bw.set i b3).map BV.c).flatten:=by
          rw [bv_write (o:=5) (b':=b3) (vs:=cellsV (.agg ⟨argC (argF lo b.term.b)⟩)) hbwi2 (by omega) (show 5+2≤9 by decide) (by rw [hb2,hb3];rfl),List.set_set]
        have hS2l:0+i * 9+1+4+2≤((bw.set i b2).map BV.c).flatten.length:=(bv_cells hbwi2 (o:=5) (n:=2) (off:=0+i * 9+1+4) (by omega) (by decide)).2
        have hdc:=sB3.dom
        have harg:∀ (a:ArgS) (H:Hp),(∀ i b,B3.m i=some b→H.m i=some b)→TF Try.prog 51 ⟨[.slice A6 m c6,.agg ⟨argC a⟩]⟩ H (.agg ⟨argC (argF lo a)⟩) H:=fun a H hu=>by
          have:=farg_tf lo A6 c6 a (by rw [hlom];omega) H (hfa3.up hu)
          rw [hlom] at this
          exact this
        ((with_reducible apply W.seq);repeat (first|((with_reducible apply RS.cmpF);(iterate 4 exact rfl);(simp only [cmpN];omega))|((with_reducible apply RS.nil);exact mixed;kernel_rfl)|((with_reducible apply W.reg);kernel_rfl)|(with_reducible apply thenK_n)))
        ((with_reducible apply W.seq);repeat (first|(with_reducible first|apply W.exit|apply thenK_n|apply thenK_e|apply roundN_e)|((with_reducible apply W.condF);kernel_rfl;exact rfl)|((with_reducible apply blockK_hit);exact rfl)))
        ((with_reducible apply W.seq);repeat (first|((with_reducible first|apply RS.nilCheck|apply RS.move|apply RS.assign|apply RS.fieldAddr);iterate 3 exact rfl)|((with_reducible apply RS.nil);exact mixed;kernel_rfl)|((with_reducible apply W.reg);kernel_rfl)|(with_reducible apply thenK_n)))
        ((with_reducible apply W.seq);repeat (first|((with_reducible apply RS.callB);(iterate 3 exact rfl);exact fun H hH=>harg _ H (base_up hdc hH);exact Nm_free (by simp [argC]))|((with_reducible apply RS.loadNB);(iterate 3 exact rfl);first|exact hBm;exact hBmn;exact hTal;exact hTa|exact hBm;exact hBmn;exact hTbl;exact hTb)|((with_reducible apply RS.storeB);(iterate 3 exact rfl);first|exact hBm;exact hBmn;exact hbbw;exact hTal;(iterate 2 exact rfl);exact hS1|exact set_self _ _ _;exact hBmn;exact hbbw;exact hS2l;(iterate 2 exact rfl);exact hS2)|((with_reducible first|apply RS.nilCheck|apply RS.move|apply RS.fieldAddr);iterate 3 exact rfl)|((with_reducible apply RS.nil);exact mixed;kernel_rfl)|((with_reducible apply W.reg);kernel_rfl)|(with_reducible apply thenK_n)))
        refine W.absorbX fun C π4 a4=>?_
        have hbwi3:(bw.set i b3)[i]?=some b3:=by rw [List.getElem?_set,if_pos rfl,if_pos (List.getElem?_eq_some_iff.1 hbwi).1]
        have hC:C.m bb=some ⟨⟨((bw.set i b3).map BV.c).flatten⟩,47⟩:=a4.up _ _ (set_self _ _ _)
        have offC:OffS (fun p=>p=bb) B3 C:=((OffS.set B3 bb _).trans (S:=fun p=>p=bb) (OffS.set _ bb _) fun p _ e=>e).same a4.oldH.off
        have keepC:∀ {p:Nat} {y:Blk},B3.m p=some y→y.elem≠47→C.m p=some y:=fun {p y} hy he=>by
          rw [offC.2 p (sB3.dom p y hy) (ne_of_elem hy hBm he)];exact hy
        have hfaC:FaAt C A6 lo:=by
          cases hfa3 with
          | none=>exact .none
          | some hm1 hr1=>exact .some (keepC hm1 (by simp)) hr1
        have hCn:=a4.dom _ _ hC
        obtain ⟨hTt,hTtl⟩:=bv_term hbwi3 (off:=0+i * 9+1) (by omega)
        have hTt:takeV (0+i * 9+1) 8 ((bw.set i b3).map BV.c).flatten=termC (argsT lo b.term):=by rw [hTt,hb3]
        have hkind:((bw.set i b3).map BV.c).flatten[0+i * 9+1+0]?=some (.int .i64 b.term.kind):=bv_cell hbwi3 (o:=1) (by omega) (by decide) (by rw [hb3];rfl)
        obtain ⟨outs,houts⟩:∃ outs,nextF (argsT lo b.term) lo=outs:=⟨_,rfl⟩
        have hnx:∀ H:Hp,(∀ i b,C.m i=some b→H.m i=some b)→EX Try.prog 54 [.agg ⟨termC (argsT lo b.term)⟩,.slice A6 m c6] H (fun v h'=>∃ A' c',v=.slice A' outs.length c'∧IntAt h' A' outs∧Old H h'∧∀ a,A'=some a→H.n≤a.block):=fun H hu=>by
          have:=fnext_ex (argsT lo b.term) lo A6 c6 (by rw [hlom];omega) H (hfaC.up hu)
          rw [hlom,houts] at this
          exact this
        have hmixi:mixL Fv bv (i+1)=(mixL Fv bv i).set i (blockV l0 b):=(mixL_set hFl hFi).symm
        have hil3:ins.length=n:=by have:=hO3.ilen;dsimp only at this;rw [List.length_set] at this;exact this
        have fin:∀ (t':TermS) (B':Hp),termF lo b.term=t'→B'.m bb=some ⟨⟨((bw.set i { b1 with term:=t' }).map BV.c).flatten⟩,47⟩→OffS (fun p=>p=bb) B3 B' →
            i+1≤n∧OwnA B' N bb (mixL Fv bv (i+1))∧SolAt B' N1 sb fb ib nb al n ⟨ins.set i lo,s.seen,s.work⟩∧(∀ j,i+1≤j→(ins.set i lo)[j]?=s.ins[j]?)∧FunI B' fb rb FC∧KeepH h N B':=by
          intro t' B' ht hm' off'
          have keep':∀ {p:Nat} {y:Blk},B3.m p=some y→y.elem≠47→B'.m p=some y:=fun {p y} hy he=>by
            rw [off'.2 p (sB3.dom p y hy) (ne_of_elem hy hBm he)];exact hy
          refine ⟨hlt,?_,hO3.upE fun p y hy hE=>keep' hy (by rcases hE with e|e|e|e|e<;>rw [e]<;>decide),fun j hj=>?_,⟨keep' hFI3.f (by simp),keep' hFI3.r (by simp)⟩,hK3.off.trans off' fun p hp e=>by rw [e];exact hA3.ge,fun p y h1 h2 h3 h4=>keep' (hK3.oth p y h1 h2 h3 h4) h2⟩
          · have:=hA3.setT hbwi t' hm' fun p y hy he=>keep' hy he
            have e:bw.set i { b1 with term:=t' }=mixL Fv bv (i+1):=by
              rw [hmixi,← hbw,List.set_set]
              congr 1
              rw [hb1,← ht]
              unfold blockV
              rw [hlo]
            rw [← e];exact this
          · rw [List.getElem?_set,if_neg (by omega)]
            exact hsame j (by omega)
        have noJ:¬ (b.term.kind=2∧∃ ko,outs=[ko])→termF lo b.term=argsT lo b.term:=by
          intro hn
          unfold termF
          rw [houts]
          split
          · rename_i ko
            rw [if_neg (fun h2=>hn ⟨h2,ko,rfl⟩)]
          · rfl
        repeat' (first|((with_reducible apply RS.loadNB);(iterate 3 exact rfl);exact hC;exact hCn;exact hTtl;exact hTt)|((with_reducible apply RS.callEx);(iterate 3 exact rfl);intro B5 hB5;refine ⟨_,hnx B5 hB5.up,?_⟩;rintro v H5 π5 ⟨AL,cL,rfl,hrowL,ho5,hnewL⟩ sH5 hle5;have hC5:=(hB5.oldH.trans ho5).up a4.dom _ _ hC;have hC5n:=sH5.dom _ _ hC5)|((with_reducible apply RS.load1B);(iterate 3 exact rfl);exact hC5;exact hC5n;exact hkind)|((with_reducible first|apply RS.nilCheck|apply RS.move|apply RS.assign|apply RS.lenSl|apply RS.fieldAddr);iterate 3 exact rfl)|((with_reducible apply RS.pickT);iterate 4 exact rfl)|((with_reducible apply RS.pickF);iterate 4 exact rfl)|((with_reducible apply RS.cmpC);iterate 5 exact rfl)|((with_reducible apply RS.add1);(iterate 4 exact rfl);omega)|((with_reducible apply RS.skip);iterate 2 exact rfl)|((with_reducible apply RS.nil);exact mixed;kernel_rfl)|(with_reducible first|apply W.seq|apply W.skip|apply thenK_n|apply blockK_n)|((with_reducible apply W.reg);kernel_rfl)|((with_reducible apply W.condF);kernel_rfl;exact rfl)|(((with_reducible apply RS.splitD);iterate 2 exact rfl)<;>intro _)|((((with_reducible apply RS.splitG);iterate 2 exact rfl)<;>intro _)<;>(fail_if_success cases ‹true=false›)<;>(fail_if_success cases ‹false=true›))|(((with_reducible apply W.condD);exact rfl)<;>intro _)|((((with_reducible apply W.cond);exact rfl)<;>intro _)<;>(fail_if_success cases ‹true=false›)<;>(fail_if_success cases ‹false=true›)))
        · obtain ⟨ko,hko⟩:∃ ko,outs=[ko]:=by
            match outs,(by omega:outs.length=1) with
            | [ko],_=>exact ⟨ko,rfl⟩
          subst hko
          have hjt:termF lo b.term=jumpT ko:=by
            unfold termF
            rw [houts]
            exact if_pos (by assumption)
          rcases hrowL with e|⟨nr,rfl,hNr⟩
          · cases e
          · have hNrn:=sH5.dom _ _ hNr
            have hJl:0+i * 9+1+8≤((bw.set i b3).map BV.c).flatten.length:=hTtl
            have hJ:setL ((bw.set i b3).map BV.c).flatten (0+i * 9+1) (cellsV (.agg ⟨termC (jumpT ko)⟩))=((bw.set i { b1 with term:=jumpT ko }).map BV.c).flatten:=by
              rw [bv_write (o:=1) (b':={ b1 with term:=jumpT ko }) (vs:=cellsV (.agg ⟨termC (jumpT ko)⟩)) hbwi3 (by omega) (show 1+8≤9 by decide) (by rw [hb3];rfl),List.set_set]
            repeat (first|((with_reducible apply (RS.indexAddrS (n:=0)));(iterate 5 exact rfl);exact Nat.succ_pos _)|((with_reducible apply RS.load1B);(iterate 3 exact rfl);exact hNr;exact hNrn;exact rfl)|((with_reducible apply RS.storeB);(iterate 3 exact rfl);exact hC5;exact hC5n;exact hbbw;exact hJl;(iterate 2 exact rfl);exact hJ)|((with_reducible first|apply RS.nilCheck|apply RS.move);iterate 3 exact rfl)|((with_reducible apply RS.add1);(iterate 4 exact rfl);omega)|((with_reducible apply RS.build);iterate 4 exact rfl)|((with_reducible apply RS.nil);exact mixed;kernel_rfl)|((with_reducible apply W.reg);kernel_rfl)|(with_reducible first|apply thenK_n|apply blockK_n))
            have off5:OffS (fun p=>p=bb) B3 H5:=offC.same (hB5.oldH.trans ho5).off
            refine roundN_n rfl fun B' y=>⟨(i+1,ins.set i lo),?_,fin (jumpT ko) B' hjt (y.up _ _ (set_self _ _ _)) ((off5.trans (S:=fun p=>p=bb) (OffS.set H5 bb _) fun p _ e=>e).same y.oldH.off),by dsimp only;omega⟩
            (repeat' (first|exact trivial|exact rfl|apply And.intro));done
        all_goals
          have off5:OffS (fun p=>p=bb) B3 H5:=offC.same (hB5.oldH.trans ho5).off
          refine roundN_n rfl fun B' y=>⟨(i+1,ins.set i lo),?_,fin (argsT lo b.term) B' (noJ fun hj=>?_) (by rw [← hb3];exact y.up _ _ hC5) (off5.same y.oldH.off),by dsimp only;omega⟩
          · (repeat' (first|exact trivial|exact rfl|apply And.intro));done
          · obtain ⟨h2,ko,hko⟩:=hj
            subst hko
            first
              | (exact absurd h2 (by assumption))
              | (exact absurd rfl (by assumption))
              | omega
    · have hFi:Fv[i]?=some b:=by rw [← hFv,foldVs_get hb hl0 hseen,if_neg (by simp)]
      repeat (first|((with_reducible apply RS.load1B);(iterate 3 exact rfl);first|exact hS;exact hSn;exact rfl|exact hNb;exact hNbn;exact bools_get hseen)|((with_reducible apply RS.indexAddrS);(iterate 5 exact rfl);exact hlt)|((with_reducible first|apply RS.nilCheck|apply RS.move|apply RS.assign|apply RS.not|apply RS.fieldAddr);iterate 3 exact rfl)|((with_reducible apply RS.cmpT);(iterate 4 exact rfl);(simp only [cmpP];omega))|((with_reducible apply RS.add1);(iterate 4 exact rfl);omega)|((with_reducible apply RS.nil);exact mixed;kernel_rfl)|(with_reducible first|apply W.seq|apply W.block|apply W.exit|apply W.skip|apply thenK_n|apply thenK_e)|((with_reducible apply W.reg);kernel_rfl)|((with_reducible apply W.condT);kernel_rfl;exact rfl)|((with_reducible apply blockK_hit);exact rfl))
      refine roundN_n rfl fun B' x=>⟨(i+1,ins),?_,⟨hlt,?_,hO.up x.up,fun j hj=>hsame j (by omega),⟨x.up _ _ hFI.f,x.up _ _ hFI.r⟩,hK.off.same x.oldH.off,fun j y h1 h2 h3 h4=>x.up _ _ (hK.oth j y h1 h2 h3 h4)⟩,by dsimp only;omega⟩
      · (repeat' (first|exact trivial|exact rfl|apply And.intro));done
      · dsimp only
        rw [← mixL_set hFl hFi,set_same (by rw [mixL_at hFl];exact hb)]
        exact hA.up x.up
  · have hin:i=n:=by omega
    subst hin
    have hR:=hFI.r
    have hRn:=sB.dom _ _ hR
    have hRw:rwM≤rb:=Nat.le_trans s0.rw hrb
    rw [← hn,mixL_all hFl] at hA
    repeat (first|((with_reducible apply RS.loadNB);(iterate 3 exact rfl);exact hF;exact hFn;exact Nat.le_of_ble_eq_true rfl;exact rfl)|((with_reducible apply RS.storeB);(iterate 3 exact rfl);exact hR;exact hRn;exact hRw;exact Nat.le_of_ble_eq_true rfl;iterate 3 exact rfl)|((with_reducible apply RS.cmpF);(iterate 4 exact rfl);(simp only [cmpN];omega))|((with_reducible apply RS.nil);exact mixed;kernel_rfl)|(with_reducible first|apply W.seq|apply W.exit|apply W.ret|apply thenK_n|apply thenK_e|apply roundN_e)|((with_reducible apply W.reg);kernel_rfl)|((with_reducible apply W.condF);kernel_rfl;exact rfl)|((with_reducible apply blockK_hit);exact rfl))
    refine endsK_ret _ (.cons (.baseN (vs:=[.string f.name,.int .i64 f.params,.slice A1 f.secret c1,.int .i64 (m:Int),.slice A2 f.slots.length c2,.slice (some ⟨bb,0,none⟩) i c3]) rfl (by show (if rb=rb then _ else _)=_;rw [if_pos rfl]) (Nat.le_of_ble_eq_true rfl) rfl) .nil) fun B' x=>?_
    have hk:∀ {j:Nat} {y:Blk},B.m j=some y→y.elem≠35→B'.m j=some y:=fun {j y} hy he=>by
      refine x.up j y ?_
      show (if j=rb then _ else B.m j)=_
      rw [if_neg (ne_of_elem hy hR he)];exact hy
    refine ⟨Fv,?_,hA.keep fun j y hy he=>hk hy ?_,?_,(hK.off.same ((OffS.set B rb _).mono fun j hj e=>?_)).same x.oldH.off,fun j y h1 h2 h3 h4=>?_⟩
    · show Value.agg _=Value.agg _
      unfold funcC
      rw [sL_length,hFl,hn,← hregs]
    · rcases he with e|e|e<;>rw [e]<;>decide
    · rw [← hFv,foldVs_s,hregs]
      exact .mk hrun
    · rw [e];exact Nat.le_trans hN hrb
    · refine x.up j y ?_
      show (if j=rb then _ else B.m j)=_
      rw [if_neg (fun e=>by have:=hd j y h1;omega)]
      exact hK.oth j y h1 h2 h3 h4
end Go.Proofs.Ytjhloakacicdiaa
namespace Go.Proofs.Ytjhloakacicdiaa
open Go.AH
attribute [local irreducible] W RS
def fitIB (n:Int):Bool:=decide (-9223372036854775808≤n) && decide (n≤9223372036854775807)
theorem fitIB_ok {n:Int} (h:fitIB n=true):fitI n:=by simpa [fitIB,fitI] using h
def ArgS.okB (a:ArgS):Bool:=fitIB a.reg && fitIB a.num
def InsS.okB (x:InsS):Bool:=fitIB x.op && fitIB x.dst && x.a.okB && x.b.okB && fitIB x.size && fitIB x.ref && fitIB x.off && decide (x.args.length≤281474976710656) && x.args.all ArgS.okB
def TermS.okB (x:TermS):Bool:=fitIB x.kind && fitIB x.op && x.a.okB && x.b.okB && fitIB x.goto && fitIB x.els
def BlockS.okB (x:BlockS):Bool:=decide (x.ins.length≤281474976710656) && x.ins.all InsS.okB && x.term.okB
def FuncS.okB (x:FuncS):Bool:=fitIB x.params && fitIB x.regs && decide (x.secret≤281474976710656) && decide (x.slots.length≤281474976710656) && x.slots.all fitIB && decide (x.blocks.length≤281474976710656) && x.blocks.all BlockS.okB
def PartS.okB (x:PartS):Bool:=fitIB x.kind && fitIB x.n && decide (x.data.length≤281474976710656) && x.data.all (fun a=>decide (0≤a) && decide (a≤255))
def GlobS.okB (x:GlobS):Bool:=fitIB x.place && fitIB x.size && decide (x.parts.length≤281474976710656) && x.parts.all PartS.okB
def ProgS.okB (x:ProgS):Bool:=decide (x.funcs.length≤281474976710656) && x.funcs.all FuncS.okB && decide (x.globals.length≤281474976710656) && x.globals.all GlobS.okB && fitIB x.data && fitIB x.main
theorem ArgS.ok_of {a:ArgS} (h:a.okB=true):a.ok:=by
  simp only [ArgS.okB,Bool.and_eq_true] at h
  exact ⟨fitIB_ok h.1,fitIB_ok h.2⟩
theorem InsS.ok_of {x:InsS} (h:x.okB=true):x.ok:=by
  simp only [InsS.okB,Bool.and_eq_true,decide_eq_true_eq] at h
  obtain ⟨⟨⟨⟨⟨⟨⟨⟨h1,h2⟩,h3⟩,h4⟩,h5⟩,h6⟩,h7⟩,h8⟩,h9⟩:=h
  exact ⟨fitIB_ok h1,fitIB_ok h2,ArgS.ok_of h3,ArgS.ok_of h4,fitIB_ok h5,fitIB_ok h6,fitIB_ok h7,h8,fun a ha=>ArgS.ok_of (List.all_eq_true.1 h9 a ha)⟩
theorem TermS.ok_of {x:TermS} (h:x.okB=true):x.ok:=by
  simp only [TermS.okB,Bool.and_eq_true] at h
  obtain ⟨⟨⟨⟨⟨h1,h2⟩,h3⟩,h4⟩,h5⟩,h6⟩:=h
  exact ⟨fitIB_ok h1,fitIB_ok h2,ArgS.ok_of h3,ArgS.ok_of h4,fitIB_ok h5,fitIB_ok h6⟩
theorem BlockS.ok_of {x:BlockS} (h:x.okB=true):x.ok:=by
  simp only [BlockS.okB,Bool.and_eq_true,decide_eq_true_eq] at h
  exact ⟨h.1.1,fun a ha=>InsS.ok_of (List.all_eq_true.1 h.1.2 a ha),TermS.ok_of h.2⟩
theorem FuncS.ok_of {x:FuncS} (h:x.okB=true):x.ok:=by
  simp only [FuncS.okB,Bool.and_eq_true,decide_eq_true_eq] at h
  obtain ⟨⟨⟨⟨⟨⟨h1,h2⟩,h3⟩,h4⟩,h5⟩,h6⟩,h7⟩:=h
  exact ⟨fitIB_ok h1,fitIB_ok h2,h3,h4,fun a ha=>fitIB_ok (List.all_eq_true.1 h5 a ha),h6,fun a ha=>BlockS.ok_of (List.all_eq_true.1 h7 a ha)⟩
theorem PartS.ok_of {x:PartS} (h:x.okB=true):x.ok:=by
  simp only [PartS.okB,Bool.and_eq_true,decide_eq_true_eq] at h
  obtain ⟨⟨⟨h1,h2⟩,h3⟩,h4⟩:=h
  exact ⟨fitIB_ok h1,fitIB_ok h2,h3,fun a ha=>by have:=List.all_eq_true.1 h4 a ha;simpa using this⟩
theorem GlobS.ok_of {x:GlobS} (h:x.okB=true):x.ok:=by
  simp only [GlobS.okB,Bool.and_eq_true,decide_eq_true_eq] at h
  obtain ⟨⟨⟨h1,h2⟩,h3⟩,h4⟩:=h
  exact ⟨fitIB_ok h1,fitIB_ok h2,h3,fun a ha=>PartS.ok_of (List.all_eq_true.1 h4 a ha)⟩
theorem ProgS.ok_of {x:ProgS} (h:x.okB=true):x.ok:=by
  simp only [ProgS.okB,Bool.and_eq_true,decide_eq_true_eq] at h
  obtain ⟨⟨⟨⟨⟨h1,h2⟩,h3⟩,h4⟩,h5⟩,h6⟩:=h
  exact ⟨h1,fun a ha=>FuncS.ok_of (List.all_eq_true.1 h2 a ha),h3,fun a ha=>GlobS.ok_of (List.all_eq_true.1 h4 a ha),fitIB_ok h5,fitIB_ok h6⟩
def InsOK (f:FuncS):Prop:=∀ b∈f.blocks,∀ x∈b.ins,x.ok∧x.dst < f.regs∧(pureS x.op=true→0≤x.dst)
theorem right_ins {p:ProgS} (hok:p.ok) (hr:rightP p=true):∀ f∈p.funcs,InsOK f:=by
  intro f hf b hb x hx
  unfold rightP at hr
  simp only [Bool.and_eq_true,decide_eq_true_eq] at hr
  have hrf:=List.all_eq_true.1 hr.2 f hf
  unfold funcOK at hrf
  simp only [Bool.and_eq_true,decide_eq_true_eq] at hrf
  have hb':=List.all_eq_true.1 hrf.2 b hb
  unfold blockOK at hb'
  simp only [Bool.and_eq_true] at hb'
  have hx':=List.all_eq_true.1 hb'.1 x hx
  unfold rightS at hx'
  simp only [Bool.and_eq_true,decide_eq_true_eq] at hx'
  refine ⟨((hok.funcs f hf).blocks b hb).ins x hx,by omega,fun hp=>?_⟩
  have hp:=pure_iff.1 hp
  have ht:=hx'.2
  unfold rightT at ht
  repeat' split at ht
  all_goals first
    | omega
    | (simp only [Bool.and_eq_true,decide_eq_true_eq,beq_iff_eq] at ht;first|exact ht.1|exact ht.1.1|exact ht|omega)
def FoldR (f f':FuncS):Prop:=∃ bl',FoldS f.regs f.blocks bl'∧f'={ f with blocks:=bl' }
theorem fold_turn:TurnEX 38 (fun f=>OkL f.regs f.blocks∧InsOK f) FoldR:=by
  intro B N bb bv f A1 c1 A2 c2 sec hK hsec hN hbb hm hod hsl hr1 hr2
  obtain ⟨hok,hio⟩:=hK
  obtain ⟨nm,pa,se,rg,sl,bl⟩:=f
  have hsl:sL bv=bl:=hsl
  subst hsl
  have hown:=hod.ownA hN hbb hm
  have hr0:=hok.r0
  have hr1':=hok.r1
  dsimp only at hr0 hr1'
  have hrg:rg=(rg.toNat:Int):=by omega
  refine (ffunc_ex B N bb bv ⟨nm,pa,se,rg,sl,sL bv⟩ rg.toNat A1 c1 A2 c2 (capOf 9) hown (by omega) hrg hok (fun b hb x hx=>⟨(hio b hb x hx).1,by rw [← hrg];exact (hio b hb x hx).2.1⟩)).mono ?_
  rintro v h' s ⟨bv',rfl,hown',hfold,hoff,hoth⟩
  have row:∀ {α:Type} {e:TypeId} {A:Option Addr} {l:List α} {enc:α→Value},e≠47→e≠64→e≠43→e≠35→e≠25→RowE B N e A l enc→RowE (cutE h') N e A l enc:=by
    intro α e A l enc h1 h2 h3 h4 h5 hr
    exact hr.up fun i b hb hbe=>cutE_in (hoth i b hb (by rw [hbe];exact h1) (by rw [hbe];exact h2) (by rw [hbe];exact h3)) (by rw [hbe];exact h4) (by rw [hbe];exact h5)
  refine ⟨_,_,rfl,⟨A1,c1,A2,c2,some ⟨bb,0,none⟩,capOf 9,sec,rfl,hsec,(row (by decide) (by decide) (by decide) (by decide) (by decide) hr1).sl fun _=>rfl,(row (by decide) (by decide) (by decide) (by decide) (by decide) hr2).sl fun _=>rfl,?_⟩,⟨sL bv',hfold,rfl⟩,hoff⟩
  exact hown'.own.cut.sl
theorem fold_prog_ex (p:ProgS) (hK:∀ f∈p.funcs,(OkL f.regs f.blocks∧InsOK f)∧CopyOK f) (hn:p.funcs.length≤100000) (h:Hp) (pb:Nat) (e:TypeId) (A1:Option Addr) (c1:Nat) (A2:Option Addr) (c2:Nat) (hP:h.m pb=some ⟨⟨progC p A1 c1 A2 c2⟩,e⟩) (hs:SlAt h A1 6 p.funcs (funcRS h)) :
    EX Try.prog 22 [.pointer (some ⟨pb,0,none⟩)] h (fun v h'=>∃ ob A c fs,v=.pointer (some ⟨ob,0,none⟩)∧h'.m ob=some ⟨⟨progC { p with funcs:=fs } A c A2 c2⟩,25⟩∧SlAt h' A 6 fs (funcRS h')∧fs.length=p.funcs.length∧(∀ (i:Nat) (f f':FuncS),p.funcs[i]?=some f→fs[i]?=some f'→FoldR f f')∧Old h h'∧h.n≤ob):=by
  refine EX.intro (fn:=Try.f22) (c:=(Try.f22.body.getD .skip)) Try.func22 (by kernel_rfl) Try.ntmps22 (by kernel_rfl) fun π s0=>?_
  conv=>arg 2;whnf
  repeat (first|((with_reducible apply RS.callEx);(iterate 3 exact rfl);intro B1 hB1;refine ⟨_,each_ex 38 _ _ fold_turn p hK hn B1 pb e A1 c1 A2 c2 (hB1.up _ _ hP) (hs.mono hB1.up fun _ _ h=>funcRS_mono hB1.up h),?_⟩;rintro v H2 π2 ⟨ob,A,c,fs,rfl,hO,hS,hl,hR,ho,hlo⟩ sH2 hle2)|((with_reducible first|apply RS.move|apply RS.assign);iterate 3 exact rfl)|((with_reducible apply RS.nil);exact mixed;kernel_rfl)|(with_reducible first|apply W.seq|apply W.ret|apply thenK_n)|((with_reducible apply W.reg);kernel_rfl))
  exact endsK_ret _ (.cons (.tmp rfl) .nil) fun B' a=>⟨ob,A,c,fs,rfl,a.up _ _ hO,hS.mono a.up fun _ _ h=>funcRS_mono a.up h,hl,hR,(hB1.oldH.trans ho).trans a.oldH,Nat.le_trans hB1.le hlo⟩
def fit12T:TermS:=⟨3,0,⟨2,0⟩,⟨0,0⟩,0,0⟩
def fit12I:InsS:=⟨1,1,⟨-1,3⟩,⟨0,0⟩,0,false,false,0,0,[]⟩
def fit12J:InsS:=⟨5,2,⟨1,0⟩,⟨-1,4⟩,0,false,false,0,0,[]⟩
def fit12K:InsS:=⟨1,2,⟨-1,12⟩,⟨0,0⟩,0,false,false,0,0,[]⟩
def fit12B:List BlockS:=[⟨[fit12I,fit12J],fit12T⟩]
def fit12C:List BlockS:=[⟨[fit12I,fit12K],⟨3,0,⟨-1,12⟩,⟨0,0⟩,0,0⟩⟩]
def fit12F (bl:List BlockS):FuncS:=⟨⟨#[109,97,105,110]⟩,0,0,3,[],bl⟩
def fit12P (bl:List BlockS):ProgS:=⟨[fit12F bl],[],0,0⟩
theorem fit12_run:SolRun fit12B (sol0 1 3) (roundF fit12B ⟨[[anyF,anyF,anyF]],[true],[]⟩ 0) :=
  .go (k:=0) (w:=[]) (by kernel_rfl) (.stop (by kernel_rfl))
theorem fit12_fold {f':FuncS} (h:FoldR (fit12F fit12B) f'):f'=fit12F fit12C:=by
  obtain ⟨bl',⟨h⟩,rfl⟩:=h
  rename_i s
  have:=fit12_run.det h
  show fit12F _=_
  congr 1
  rw [← this]
  kernel_rfl
theorem fit12_ok:∀ f∈(fit12P fit12B).funcs,(OkL f.regs f.blocks∧InsOK f)∧CopyOK f:=by
  have hok:(fit12P fit12B).ok:=ProgS.ok_of (by kernel_rfl)
  have hl:lightP (fit12P fit12B)=true:=by kernel_rfl
  have hr:rightP (fit12P fit12B)=true:=by kernel_rfl
  intro f hf
  have h1:=light_right hok hl hr f hf
  exact ⟨⟨h1.1,right_ins hok hr f hf⟩,h1.2⟩
theorem fit12_runP:RunP (fit12P fit12C):=(lightP_all (by kernel_rfl)).run (ProgS.ok_of (by kernel_rfl)) (by kernel_rfl)
theorem fit12_val (stk:List Int):(endS (callK (fit12P fit12C) 10 101 (startS 9 (dataS (fit12P fit12C) [] []) stk) 0 [])).exit=12:=by kernel_rfl
instance:FOne Try.prog 55 1 1:=⟨by kernel_rfl⟩
set_option maxRecDepth 100000 in
theorem fit12_tf (h:Hp):TF Try.prog 21 ⟨[]⟩ h (.bool true) h:=by
  refine TF.exact (fn:=Try.f21) (c:=(Try.f21.body.getD .skip)) Try.func21 (by kernel_rfl) Try.ntmps21 (by kernel_rfl) (fun s0=>⟨Nat.le_refl _,by simp,fun i b hb=>⟨s0.dom i b hb,s0.bd i b hb⟩⟩) fun π s0=>?_
  conv=>arg 2;whnf
  ((with_reducible apply W.seq);repeat (first|((with_reducible apply RS.assign);iterate 3 exact rfl)|((with_reducible apply RS.nil);exact mixed;kernel_rfl)|((with_reducible apply W.reg);kernel_rfl)|(with_reducible apply thenK_n)))
  ((with_reducible apply W.seq);repeat (first|((with_reducible apply RS.callB);(iterate 3 exact rfl);first|exact fun H hH=>(numN_tf _ H);exact Nm_free (by simp)|exact fun H hH=>(R_tf _ H);exact Nm_free (by simp))|((with_reducible apply RS.buildSlice);iterate 8 exact rfl)|((with_reducible apply RS.store);(iterate 5 exact rfl);exact Nat.le_of_ble_eq_true rfl;iterate 3 exact rfl)|((with_reducible apply RS.alloc);iterate 2 exact rfl)|((with_reducible apply RS.build);iterate 4 exact rfl)|((with_reducible apply RS.nil);exact mixed;kernel_rfl)|((with_reducible apply W.reg);kernel_rfl)|(with_reducible apply thenK_n)))
  refine W.absorbX fun B0 π0 a0=>?_
  have m0:B0.m (π 0)=some ⟨⟨insC fit12I none 0++insC fit12J none 0⟩,64⟩:=a0.loc 0 (by decide:(0:Nat) < 4)
  have m1:B0.m (π 1)=some ⟨⟨[.slice (some ⟨π 0,0,none⟩) 2 2,.int .i64 3,.int .i64 0,.int .i64 2,.int .i64 0,.int .i64 0,.int .i64 0,.int .i64 0,.int .i64 0]⟩,47⟩:=a0.loc 1 (by decide:(1:Nat) < 4)
  have m2:B0.m (π 2)=some ⟨⟨[.string ⟨#[109,97,105,110]⟩,.int .i64 0,.slice none 0 0,.int .i64 3,.slice none 0 0,.slice (some ⟨π 1,0,none⟩) 1 1]⟩,35⟩:=a0.loc 2 (by decide:(2:Nat) < 4)
  have m3:B0.m (π 3)=some ⟨⟨progC (fit12P fit12B) (some ⟨π 2,0,none⟩) 1 none 0⟩,25⟩:=a0.loc 3 (by decide:(3:Nat) < 4)
  have hs:SlAt B0 (some ⟨π 2,0,none⟩) 6 (fit12P fit12B).funcs (funcRS B0):=by
    refine slat_one m2 (Nat.le_refl _) ⟨none,0,none,0,some ⟨π 1,0,none⟩,1,[],rfl,rfl,SlAt.nil,SlAt.nil,?_⟩
    refine slat_one m1 (Nat.le_refl _) ⟨some ⟨π 0,0,none⟩,2,rfl,?_⟩
    refine ⟨fun i y hy=>?_⟩
    match i,hy with
    | 0,hy=>simp at hy;subst hy;exact ⟨π 0,0,_,_,rfl,m0,by decide,none,0,rfl,SlAt.nil⟩
    | 1,hy=>simp at hy;subst hy;exact ⟨π 0,0,_,_,rfl,m0,by decide,none,0,rfl,SlAt.nil⟩
    | i+2,hy=>simp at hy
  ((with_reducible apply W.seq);repeat (first|((with_reducible apply RS.callEx);(iterate 3 exact rfl);intro B1 hB1;refine ⟨_,fold_prog_ex (fit12P fit12B) fit12_ok (by decide) B1 (π 3) 25 _ _ _ _ (hB1.up _ _ m3) (hs.mono hB1.up fun _ _ h=>funcRS_mono hB1.up h),?_⟩;rintro v H2 π2 ⟨ob,A,c,fs,rfl,hO,hS,hl,hR,ho,hlo⟩ sH2 hle2)|((with_reducible apply RS.assign);iterate 3 exact rfl)|((with_reducible apply RS.nil);exact mixed;kernel_rfl)|((with_reducible apply W.reg);kernel_rfl)|(with_reducible apply thenK_n)))
  have hl:fs.length=1:=hl
  obtain ⟨f',rfl⟩:∃ f',fs=[f']:=by
    match fs,hl with
    | [f'],_=>exact ⟨f',rfl⟩
  have hf':=fit12_fold (hR 0 _ f' rfl rfl)
  subst hf'
  have hS0:=hS
  obtain ⟨gb,go,gcs,ge,rfl,hG,hGl,G1,g1,G2,g2,G3,g3,sec,hGv,_,_,_,hGB⟩:=hS.get 0 _ rfl
  have hG5:gcs[go+0 * 6+5]?=some (.slice G3 1 g3):=take_nth hGv (j:=5) rfl
  obtain ⟨bb,bo,bcs,be,rfl,hB,hBl,Q1,q1,hBv,hBI⟩:=hGB.get 0 _ rfl
  have hB0:bcs[bo+0 * 9+0]?=some (.slice Q1 2 q1):=take_nth hBv (j:=0) rfl
  obtain ⟨ib,io,ics,ie,rfl,hI,hIl,J1,j1,hIv,_⟩:=hBI.get 1 _ rfl
  have hI0:ics[io+1 * 12+0]?=some (.int .i64 1):=take_nth hIv (j:=0) rfl
  have hGn:=sH2.dom _ _ hG
  have hBn:=sH2.dom _ _ hB
  have hIn:=sH2.dom _ _ hI
  have hOn:=sH2.dom _ _ hO
  have hp:ProgAt H2 ob (fit12P fit12C) 25 (some ⟨gb,go,none⟩) c none 0:=⟨hO,hS0.mono (fun _ _ h=>h) fun _ _ h=>h.r,SlAt.nil⟩
  have hrun:=Run_to H2 sH2.dom (fit12P fit12C) fit12_runP (by decide) (fun g hg=>by cases hg) ob 25 _ _ _ _ hp none 0 0 none 0 0 [] [] InRow.none InRow.none 9 (by decide) 10 (by decide)
  have hv:=fit12_val (List.replicate 416000 0)
  change (runS (fit12P fit12C) 10 [] [] 9).exit=12 at hv
  generalize runS (fit12P fit12C) 10 [] [] 9=r at hrun hv
  obtain ⟨fin,exit,out,leaks,steps,fuel,data,stack,sp,deep⟩:=r
  dsimp only at hv
  subst hv
  have hO:H2.m ob=some ⟨⟨[.slice (some ⟨gb,go,none⟩) 1 c,.slice none 0 0,.int .i64 0,.int .i64 0]⟩,25⟩:=hO
  repeat (first|((with_reducible apply RS.nePtrNil);iterate 4 exact rfl)|((with_reducible apply RS.load1B);(iterate 3 exact rfl);first|exact hO;exact hOn;exact rfl|exact hG;exact hGn;exact hG5|exact hB;exact hBn;exact hB0|exact hI;exact hIn;exact hI0)|((with_reducible apply (RS.indexAddrS (n:=0)));(iterate 5 exact rfl);exact Nat.succ_pos _)|((with_reducible apply (RS.indexAddrS (n:=1)));(iterate 5 exact rfl);exact Nat.succ_lt_succ (Nat.succ_pos _))|((with_reducible apply (RS.callO (vs:=[]) [] 2));(iterate 2 exact rfl);exact hrun;(iterate 2 exact rfl);exact trivial;exact trivial)|((with_reducible apply RS.field1);iterate 4 exact rfl)|((with_reducible first|apply RS.nilCheck|apply RS.move|apply RS.assign|apply RS.lenSl|apply RS.fieldAddr);iterate 3 exact rfl)|((with_reducible apply RS.pickT);iterate 4 exact rfl)|((with_reducible apply RS.cmpT);(iterate 4 exact rfl);(simp only [cmpP];omega))|((with_reducible apply RS.cmpC);iterate 5 exact rfl)|((with_reducible apply RS.build);iterate 4 exact rfl)|((with_reducible apply RS.nil);exact mixed;kernel_rfl)|(with_reducible first|apply W.seq|apply W.ret|apply thenK_n)|((with_reducible apply W.reg);kernel_rfl))
  exact endsK_ret _ (.cons (.tmp rfl) .nil) fun B' a=>⟨rfl,fun j x hj=>a.up _ _ ((hB1.oldH.trans ho).up a0.dom _ _ (a0.up _ _ hj))⟩
end Go.Proofs.Ytjhloakacicdiaa
namespace Go.Proofs.Ytjhloakacicdiaa
open Go.AH
theorem round_good {bl:List BlockS} (ht:tgtOK bl) (hx:∀ b∈bl,∀ x∈b.ins,x.ok) {r:Nat} {s:SolS} (i:SolI bl r s) (g:GoodS s) {k:Int} {w:List Int} (hw:s.work=k::w):GoodS (roundF bl ⟨s.ins,s.seen,w⟩ k):=by
  obtain ⟨k0,k1,ks⟩:=i.work k (by rw [hw];simp)
  have hkl:k.toNat < bl.length:=by omega
  obtain ⟨b,hb⟩:∃ b,bl[k.toNat]?=some b:=⟨_,List.getElem?_eq_getElem hkl⟩
  obtain ⟨l,hl⟩:∃ l,s.ins[k.toNat]?=some l:=⟨_,List.getElem?_eq_getElem (by rw [i.ins];exact hkl)⟩
  have hbm:=List.mem_of_getElem? hb
  have hlm:=List.mem_of_getElem? hl
  have hout:outF bl ⟨s.ins,s.seen,w⟩ k=b.ins.foldl stepF l:=by
    unfold outF
    rw [hb]
    dsimp only
    rw [hl]
    rfl
  have hlen:(b.ins.foldl stepF l).length=r:=by rw [stepsF_length,i.wid _ _ hl ks]
  have w0:SolW bl.length r ⟨s.ins,s.seen,w⟩:=⟨i.ins,i.seen,i.wid,fun j hj=>i.work j (by rw [hw];simp [hj])⟩
  have g0:GoodS ⟨s.ins,s.seen,w⟩:=⟨g.fit,g.wf⟩
  unfold roundF
  rw [hb,hout]
  dsimp only
  exact (reachFs_left hlen (stepsF_fit _ _ (g.fit _ hlm) (hx b hbm)) (stepsF_wf _ _ (g.wf _ hlm)) _ _ w0 g0 fun o ho=>ht b hbm o (nextF_sub o ho)).1
theorem solRun_good {bl:List BlockS} (ht:tgtOK bl) (hx:∀ b∈bl,∀ x∈b.ins,x.ok) {r:Nat} {s s':SolS} (h:SolRun bl s s'):SolI bl r s→GoodS s→GoodS s':=by
  induction h with
  | stop _=>exact fun _ g=>g
  | go h _ ih=>exact fun i g=>ih (roundF_ok ht i h) (round_good ht hx i g h)
theorem sol0_good {bl:List BlockS} (hpos:0 < bl.length) (regs:Int):GoodS (sol0 bl.length regs):=by
  have w0:SolW bl.length regs.toNat ⟨List.replicate bl.length [],List.replicate bl.length false,[]⟩:=by
    refine ⟨by simp,by simp,fun k l _ hk=>?_,fun k hk=>by cases hk⟩
    have hk:(List.replicate bl.length false)[k]?=some true:=hk
    rw [List.getElem?_replicate] at hk
    split at hk<;>simp at hk
  have hG0:GoodS ⟨List.replicate bl.length [],List.replicate bl.length false,[]⟩:=⟨fun l hl=>(by rw [List.eq_of_mem_replicate hl];exact fun f hf=>absurd hf List.not_mem_nil),fun l hl=>(by rw [List.eq_of_mem_replicate hl];exact fun f hf=>absurd hf List.not_mem_nil)⟩
  exact (reachF_left w0 hG0 (l:=List.replicate regs.toNat anyF) (by simp) (fun f hf=>by rw [List.eq_of_mem_replicate hf];exact fit0) (fun f hf=>.inl (List.eq_of_mem_replicate hf)) (k:=0) (by omega) (by omega)).1
theorem argF_fit {l:List FactS} (hl:FitF l) {a:ArgS} (ha:fitI a.num):fitI (argF l a).num:=by
  unfold argF
  split
  · exact ofF_fit hl ha
  · exact ha
theorem knownF_b {l:List FactS} (hl:FitF l) {x:InsS} (hx:x.ok):fitI (knownF l x).b.num:=by
  unfold knownF
  split
  · exact fit0
  · exact argF_fit hl hx.b.2
theorem insF_b {l:List FactS} (hl:FitF l) {x:InsS} (hx:x.ok):fitI (insF l x).b.num:=by
  have h:=knownF_b hl hx
  unfold insF simpleF
  repeat' split
  all_goals first|exact fit0|exact h
theorem insFs_b:∀ {xs:List InsS} {l:List FactS},FitF l→(∀ x∈xs,x.ok)→∀ y∈insFs l xs,fitI y.b.num
  | [],_,_,_,y,hy=>by cases hy
  | x::xs,l,hl,hx,y,hy=>by
    rw [insFs] at hy
    rcases List.mem_cons.1 hy with e|e
    · rw [e];exact insF_b hl (hx x (by simp))
    · exact insFs_b (stepF_fit hl (hx x (by simp))) (fun z hz=>hx z (by simp [hz])) y e
theorem foldB_b:∀ {bl:List BlockS} {ls:List (List FactS)} {ss:List Bool},(∀ l∈ls,FitF l)→(∀ b∈bl,∀ x∈b.ins,x.ok)→∀ b'∈foldB bl ls ss,∀ y∈b'.ins,fitI y.b.num
  | [],_,_,_,_,b',hb',_,_=>by simp [foldB] at hb'
  | b::bl,[],ss,_,hx,b',hb',y,hy=>(hx b' (by simpa [foldB] using hb') y hy).b.2
  | b::bl,_::_,[],_,hx,b',hb',y,hy=>(hx b' (by simpa [foldB] using hb') y hy).b.2
  | b::bl,l::ls,s::ss,hl,hx,b',hb',y,hy=>by
    rw [foldB] at hb'
    rcases List.mem_cons.1 hb' with e|e
    · split at e
      · subst e
        exact insFs_b (hl l (by simp)) (hx b (by simp)) y hy
      · subst e
        exact (hx _ (by simp) y hy).b.2
    · exact foldB_b (fun m hm=>hl m (by simp [hm])) (fun c hc=>hx c (by simp [hc])) b' e y hy
theorem foldS_fit {bl bl':List BlockS} {regs:Int} (hpos:0 < bl.length) (ht:tgtOK bl) (hx:∀ b∈bl,∀ x∈b.ins,x.ok) (h:FoldS regs bl bl'):∀ b'∈bl',∀ y∈b'.ins,fitI y.b.num:=by
  obtain ⟨hr⟩:=h
  have g:=solRun_good ht hx hr (sol0_ok hpos regs) (sol0_good hpos regs)
  exact foldB_b g.fit hx
end Go.Proofs.Ytjhloakacicdiaa
