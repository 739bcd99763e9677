/- Contracts of functions that the law reaches -/
import Derived.Test.YtplleokmejppjaaGreatDoorR29
import Derived.Test.YtplleokmejppjaaGreatDoorR30
set_option linter.all false
set_option maxHeartbeats 9999999
set_option maxRecDepth 100000
namespace Go.Proofs.YtplleokmejppjaaGreatDoor
open Go.Proofs.Tryz
open Go Go.AH Go.ChangeShapes Go.WideShapes Go.ChangeAt Go.RowKit
def aLD{P W r bD t e n v}(aS:P.underlying t=some (.array n e))(h:Value.okWide P W r bD t v):∃cs,v=.agg cs/\cs.size=P.cellsOf t:=by
 simp[Value.okWide,aS] at h;have⟨cs,J,ab,_⟩:=h;exact⟨cs,J,ab⟩
def aLE{P W r bD t v}(aS:P.underlying t=some (.int .i64))(h:Value.okWide P W r bD t v):∃n,v=.int .i64 n:=by
 simp[Value.okWide,aS,Cell.okWide] at h;cases v<;>simp_all[Cell.ok]
def aLF{P W r bD t u ts cs a n c i e}(aC:∃m e,P.underlying t=some (.array m e))(aS:P.cellTypes P.depth t=some ts)(h:Value.okWide P W r bD t (.agg cs))(ag:cs[i]?=some (.slice (some a) n c))(hu:ts[i%ts.length]?=some u)(he:P.underlying u=some (.slice e)):a.spot=none:=by
 have⟨m,iD,aC⟩:=aC;simp only[Value.okWide,aC] at h;have⟨cs',J,_,aSN,ab,_,aK⟩:=h;cases J;rw[aS] at ab;cases ab;have⟨yk,br,cz⟩:=aK i _ ag;rw[hu] at br;cases br;simp[Cell.okWide,Cell.ok,he] at cz;exact cz.2.2.2.1
section
variable{H:Type}{dy:TypeId×Value->H}{W:World}{G:Nat}{g0:Nat->Option cd}
def ie.array{P t e n w cs}(aS:P.underlying t=some (.array n e))(hw:P.cellsOf e=w)(aB:P.cellsOf t=n*w)(h:ie dy P W t cs):cs.length=n*w/\∀i,i<n->ie dy P W e ((cs.drop (i*w)).take w):=by
 have⟨bu,x,h,aj⟩:=h;rcases bu with _|bu
 .simp[DataW.trod] at h
 .simp only[DataW.trod,aS,hw] at h;split at h
  .rename_i ao;have⟨xs,hm,aa⟩:=GB.1 h;subst aa;simp[DataW.weights,aS] at aj;refine⟨ao.trans aB,λi ag=>?_⟩;have⟨b,I,ar⟩:=Lib.mapM_at hm i i Mt;exact⟨bu,b,ar,avt (ih.2 ⟨b,bQ I,rfl⟩) aj⟩
  .exact jh
def aLG{cs}(h:ie dy prog W 29 cs):D G g0 W cs (2+2) (λH eJ=>∃ch a2,eJ=ch++a2/\Zl H ch/\Zl H a2):=by
 have⟨ao,ar⟩:=ie.array (w:=2) Tryz.underlying29 ax ax h;have e:cs=(cs.drop (0*2)).take 2++(cs.drop (1*2)).take 2:=by
  have:(cs.drop 2).take 2=cs.drop 2:=BY (by rw[P4,ao];decide);simp[this]
 exact e▸D.append aLg (avm (ar 0 bo)) (avm (ar 1 bo))
end
def aLH os(started:os.Started) H(dy:TypeId×Value->H):
 ReturnsInHanded {} Tryz.checked os 3 .any (λw args=>(Rows.deadKeepsSpec.pre dy prog f3 [] false w args/\laidMetH prog Pc w)/\sizedMet dy prog f3 (OpenSpec.ofChange Rows.deadKeepsSpec) false w args)
  (Rows.deadKeepsSpec.post dy prog f3 false true false false):=by
 refine aLI (C:=Tryz.checked) (X:=λw _=>laidMetH prog Pc w) (λ_ _ _ b5 h=>h.of_heap b5) Tryz.fC started ax func3
  (ChangeSpec.witness_shaped (enc:=dy) (C:=Tryz.checked) (os:=os) (X:=λw _=>laidMetH prog Pc w) false (World.doorLaid prog 4000 os) #[.agg #[.slice none 0 0,.slice none 0 0,bm 0,bm 0],.agg #[.slice none 0 0,.slice none 0 0,.slice none 0 0,.slice none 0 0],bm 0] 8 rfl (World.shaped_of_RefB ax ax) ax ax ax (aLC os _)) ?_
 intro W bD args cI gs o aLJ nX _ aLK eM uE _;have Dv:∀(j:Nat) t v,f3.params[j]?=some t->args[j]?=some v->Value.okWide prog W .any bD t v:=aLJ;have avu:(DataW.weightsEach prog (f3.params.toList++Rows.deadKeepsSpec.plain.varTypes prog) (cI++gs)).all (·<=reachBytes)=true:=aLK;have Z:DataW.Whole dy prog f3.params.toList Rows.deadKeepsSpec.vars false W args.toList cI gs o:=nX;obtain⟨p,q,ahK,zm,lq,aSO,ys⟩:=nX;have c5:DataW.TrodAll dy prog W 0 (λ_=>true) true f3.params.toList args.toList cI p:=ahK;have Kv:f3.params=#[25,29,3]:=ax;have s8:=c5;rw[Kv] at s8 Dv avu;obtain⟨v0,v1,v2,d0,d1,d2,aLL,rh,ri,rfl,rfl,rfl,h0,J,ab⟩:=trodAll_three s8;obtain⟨rfl,rfl⟩:=trodVars_none zm;have N7:(DataW.weightsEach prog [25,29,3] [d0,d1,d2]).all (λx=>decide (x<=reachBytes))=true:=avu;simp only[DataW.weightsEach,List.all_append,cA] at N7;obtain⟨Pf,rfl,asQ⟩:=okWide_struct Tryz.underlying25 (Dv 0 25 v0 rfl rfl);obtain⟨M,rfl,z8⟩:=aLD Tryz.underlying29 (Dv 1 29 v1 rfl rfl);obtain⟨eo,rfl⟩:=aLE Tryz.underlying3 (Dv 2 3 v2 rfl rfl);have t0:ie dy prog W 25 Pf.toList:=ie.of h0 (λn ak=>by simpa using iB.1 N7.1 n ak);have t1:ie dy prog W 29 M.toList:=ie.of J (λn ak=>by simpa using iB.1 N7.2.1 n ak);obtain⟨g0,Zn,G2⟩:=aLB uE eM;obtain⟨s,eJ,Y,dO,pr,l5,a0,aSP,rfl,V,ch,a2,rfl,U,T⟩:=D.append (G:=prog.globals.size) (g0:=g0) aLj (aLk t0) (aLG t1) [] ⟨λi w b h=>p2,λi w b h=>p2⟩;rw[UC] at Y pr l5 V U T;obtain⟨Tp,Q,S,O,a1,rfl,kU,rN,aQ,mz⟩:=V;obtain⟨bj,F,aW,a8,y,aT,b2,bI,rfl,oV,kZ⟩:=U;obtain⟨dr,B,bn,E,z,L,jm,ix,rfl,Dh,Di⟩:=T;have cQ:prog.globals.size+s.length<=df:=bx (Nat.add_le_add_left dO _) (dM ax);rw[pW] at pr;have aLM:Pf.toList.length=4:=by rw[Ap,asQ];kernel_rfl
 obtain⟨m0,m1⟩:=List.append_inj pr (by rw[fI,aLM];rfl);have aLN:Pf=⟨(hd Tp Q S O a1).map (bP (nm prog.globals.size s))⟩:=by rw[m0]
 have akS:M=⟨[Value.slice bj F aW,.slice a8 y aT,.slice dr B bn,.slice E z L].map (bP (nm prog.globals.size s))⟩:=by
  have e:M=⟨([Value.slice bj F aW,.slice a8 y aT]++[Value.slice dr B bn,Value.slice E z L]).map (bP (nm prog.globals.size s))⟩:=by rw[m1]
  exact e
 have Zo:∀(i:Nat) (A:Option Addr) (n c:Nat),i<4->M[i]?=some (bP (nm prog.globals.size s) (.slice A n c))->∀a,A=some a->a.spot=none:=by
  rintro i A n c ag aB a rfl;exact aLF (cs:=M) (i:=i) (a:=fJ (nm prog.globals.size s) a) (n:=n) ⟨_,_,Tryz.underlying29⟩ (ts:=[26,26,26,26]) ax (Dv 1 29 _ rfl rfl) (by rw[aB,qJ]) (by rcases i with _|_|_|_|i<;>first|rfl|omega) (ax:prog.underlying 26=some (.slice 5))
 have nA:=Zo 0 bj F aW bo VL;have rO:=Zo 1 a8 y aT bo VL;have Tl:=Zo 2 dr B bn bo VL;have F5:=Zo 3 E z L bo VL;have cj:(qC prog.globals.size g0 s).n=df:=avA _ _ _;have dR:∀v∈hd Tp Q S O a1,bw (qC prog.globals.size g0 s).n v:=λv aE=>by rw[cj];exact hc cQ v (l5 v (Uz _ aE))
 have hg:∀v∈[Value.slice bj F aW,.slice a8 y aT,.slice dr B bn,.slice E z L],bw (qC prog.globals.size g0 s).n v:=λv aE=>by rw[cj];exact hc cQ v (l5 v (aaT _ aE))
 have aS:=aKR (qC prog.globals.size g0 s) (G2 s).1 (G2 s).2 Tp aQ mz Q S O a1 kU rN eo bj F aW a8 y aT dr B bn E z L b2 bI jm ix (oV nA) (kZ rO) (Dh Tl) (Di F5);have b5:=bc.below aS (λi b h=>h) (by
  intro x aa;have aa:x∈[Value.agg ⟨hd Tp Q S O a1⟩,.agg ⟨[.slice bj F aW,.slice a8 y aT,.slice dr B bn,.slice E z L]⟩,bm eo]:=B6;simp only[dI,jP,j6] at aa;rcases aa with rfl|rfl|rfl
  .rw[qK];exact λv aE=>dR v lL
  .rw[qK];exact λv aE=>hg v lL
  .simp) (BG.aQ Y cQ Zn)
 have mZ:(⟨[.agg ⟨hd Tp Q S O a1⟩,.agg ⟨[.slice bj F aW,.slice a8 y aT,.slice dr B bn,.slice E z L]⟩,bm eo]⟩:Array Value).map (bP (nm prog.globals.size s))=#[.agg Pf,.agg M,bm eo]:=by
  rw[aLN,akS];simp only[so,gg,oH,QK,Eb]
 rw[mZ] at b5;refine b5.mono λe W' ⟨⟨ρ',he⟩,I⟩=>?_;have rS:DataW.TrodAll dy prog W' W.heap.size (λ_=>false) false [4] [.bool true] [.lit (.bool true)] []:=trodAll_mk1 (aLf ax);refine⟨.bool true,D1,[d0,d1,d2],[],o,[],aLL++rh++ri,[],Z,rS,?_,rfl,Below.frame I _,λh=>jh⟩;refine aLe Tryz.laidOut I (ts:=f3.params.toList) (λt aS=>?_) (λx aa=>Z.lt x (by rw[lq,l2];exact aa)) c5;rw[Kv] at aS;have aS:t=25\/t=29\/t=3:=Jm;rcases aS with rfl|rfl|rfl<;>exact⟨ax,xr ax⟩
def aLO:Rows.DeadKeepsSaid :=
 OpenClaim.holds_of_wide 3 f3 rfl rfl rfl rfl rfl rfl rfl ⟨rfl,rfl,rfl,rfl,rfl⟩ rfl rfl rfl rfl rfl ax func3 ax
  (xr ax) (by rw[Func.isWrapper,ai VQ];exact⟨rfl,rfl⟩)
  (λos a H dy _=>aLH os a H dy)
def deadKeeps_card:Rows.DeadKeepsCardSaid :=
 Claim7.holds_tied_plain_at .later [] [.data, .data, .data, .data] true (true, "061fb3cdb9878712350a6889377d1ebc0ec65e56dc50df53be2ac1961732df69") false
  aLO (λ_ h=>jh) ax (λ_ h=>jh) deadKeeps_row_tie rfl ⟨rfl,rfl⟩ ax rfl
  (λf fn b a=>by
   obtain rfl:f=3:=uj ((show prog.funcNamed Rows.deadKeepsRow.func=some 3 by kernel_rfl).symm.trans b) |>.symm
   obtain rfl:fn=f3:=(uj (func3.symm.trans a)).symm
   exact⟨ax,λj t aS=>by
    rw[show f3.params=#[25,29,3] by kernel_rfl] at aS
    have c:t=25\/t=29\/t=3:=by
     rcases j with _|_|_|j
     .exact .inl abQ
     .exact .inr (.inl abQ)
     .exact .inr (.inr abQ)
     .simp at aS
    rcases c with rfl|rfl|rfl
    .exact(show prog.wantsStandIn 25=false by kernel_rfl)
    .exact(show prog.wantsStandIn 29=false by kernel_rfl)
    .exact(show prog.wantsStandIn 3=false by kernel_rfl)⟩)
  ax
#print axioms deadKeeps_card
end Go.Proofs.YtplleokmejppjaaGreatDoor
