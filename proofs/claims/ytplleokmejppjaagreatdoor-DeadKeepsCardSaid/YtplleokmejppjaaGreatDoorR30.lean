/- Contracts of functions that the law reaches -/
import Derived.Carry
import Derived.LaidMore
import Derived.Lib.LaidTab
import Derived.OpenShut
import Derived.ProofKit
import Derived.Stop.Joined
import Derived.Test.YtplleokmejppjaaGreatDoorCards
import Derived.Test.YtplleokmejppjaaGreatDoorChecked
import Derived.Test.YtplleokmejppjaaGreatDoorTie
import Derived.Test.YtplleokmejppjaaGreatDoorR17
import Derived.Test.YtplleokmejppjaaGreatDoorR23
set_option linter.all false
set_option maxHeartbeats 9999999
set_option maxRecDepth 100000
namespace Go.Proofs.YtplleokmejppjaaGreatDoor
open Go.Proofs.Tryz
open Go.AH
open Go.AH Go.ChangeShapes Go.WideShapes Go.ChangeAt Go.RowKit
open Go Go.AH Go.RowKit
section
variable{H:Type}{dy:TypeId×Value->H}{G:Nat}{g0:Nat->Option cd}{W:World}
def BE{T}{R:aV->List Value->T->Prop}{K:T->Prop}{w M h q}(aM:mS w M (λh a=>∃x,R h a x/\K x) h q):
 ∃(A:Option Addr) (c:Nat) (l:List T),q=[.slice A l.length c]/\c0 h A w l (R h)/\(∀x∈l,K x)/\l.length<=M/\l.length<=c/\c<nw/\(A=none->c=0):=by
 have⟨A,c,g,e,r,J,C,z,u⟩:=aM;have d:∀f:List (List Value),(∀a∈f,∃x,R h a x/\K x)->∃l:List T,l.length=f.length/\(∀x∈l,K x)/\∀(i:Nat) (x:T),l[i]?=some x->∃a,f[i]?=some a/\R h a x:=by
  intro f;induction f with
  | nil=>exact λ_=>⟨[],rfl,(λx aa=>by cases aa),λi x aa=>by simp at aa⟩
  | cons a f v =>
   intro aJ;have⟨x,aa,aj⟩:=aJ a aF;have⟨l,o,n,m⟩:=v λb I=>aJ b (by simp[I]);refine⟨x::l,by simp[o],λy aN=>?_,λi y aN=>?_⟩
   .rcases dI.1 aN with rfl|aN
    .exact aj
    .exact n y aN
   .rcases i with _|i
    .simp at aN;subst aN;exact⟨a,rfl,aa⟩
    .simpa using m i y Jl
 have⟨l,o,n,m⟩:=d g λa aJ=>(r.all a aJ).1;refine⟨A,c,l,by rwa[o],⟨λi x aa=>?_⟩,n,U,U,z,u⟩;have⟨a,aJ,B⟩:=m i x aa;have k:=bQ aJ;have⟨b,s,t,I⟩:=r.aI (λak=>by rw[ak] at k;cases k);have yW:=λx aa=>(r.all x aa).2;refine⟨b,0,g.flatten,s,t,I,?_,?_⟩
 .rw[yi yW];have:(i+1)*w<=g.length*w:=I2 _ ((cS.1 aJ).1);rw[uu] at this;omega
 .have:cr (0+i*w) w g.flatten=a:=by
   rw[hs];apply kg;intro j;rw[tl];by_cases aA:j<w
   .exact aks
   .rw[ai aA,wh (by rw[yW a k];omega)]
  rwa[this]
def aK5{n}(J:IntKind.i64.min<=n)(a:n<=IntKind.i64.max):b8 n:=by
 rw[(bo:IntKind.i64.min=-9223372036854775808)] at J;rw[(bo:IntKind.i64.max=9223372036854775807)] at a;exact⟨J,a⟩
def pT(_:aV)(eJ:List Value):Prop:=∃n,eJ=[.int .i64 n]/\b8 n
def rq{t cs}(aS:prog.underlying t=some (.int .i64))(h:ie dy prog W t cs):D G g0 W cs 0 pT:=(D.int aS h).mono (b4 _) λ_ _ _ ⟨n,e,J,ab⟩=>⟨n,e,aK5 J ab⟩
def qA:qB pT:=λ_ _ _ _ h=>h
def Lw(_:aV)(eJ:List Value):Prop:=∃a,kL eJ a/\ho.ok a
def O9:qB Lw:=λ_ _ _ _ h=>h
def Tj{cs}(h:ie dy prog W 38 cs):D G g0 W cs 0 Lw:=by
 obtain⟨ao,ar⟩:=h.uH (l:=[(3,0,1),(2,1,1)]) ax ax;have:=Ah.d (g0:=g0) (G:=G) (W:=W) (l:=[(1,0,pT),(1,0,pT)]) ⟨qA,rq ax (ar (3,0,1) aF),qA,rq ax (ar (2,1,1) aF),ao⟩;refine D.mono this Jq ?_;rintro H eJ _ ⟨_,_,rfl,⟨a,rfl,aJ⟩,_,_,rfl,⟨b,rfl,I⟩,rfl⟩;exact⟨⟨a,b⟩,rfl,aJ,I⟩
def aK6:aV->List Value->Prop:=mS 2 reachBytes Lw
def ahA(h:aV)(eJ:List Value):Prop:=∃x,HU h eJ x/\cO.ok x
def avf:qB ahA:=λ_ _ _ hm ⟨x,aa,aj⟩=>⟨x,arn hm aa,aj⟩
def ahB(_:aV)(eJ:List Value):Prop:=∃b,eJ=[.bool b]
def avg:qB ahB:=λ_ _ _ _ h=>h
def ahC(_:aV)(eJ:List Value):Prop:=∃s:ByteArray,eJ=[.string s]/\s.size<=reachBytes
def avh:qB ahC:=λ_ _ _ _ h=>h
def aK7{cs}(h:ie dy prog W 42 cs):D G g0 W cs 1 ahA:=by
 obtain⟨ao,ar⟩:=h.uH (l:=[(3,0,1),(3,1,1),(38,2,2),(38,4,2),(3,6,1),(4,7,1),(4,8,1),(3,9,1),(2,10,1),(40,11,1)]) ax ax;have:=Ah.d (g0:=g0) (G:=G) (W:=W) (l:=[(1,0,pT),(1,0,pT),(2,0,Lw),(2,0,Lw),(1,0,pT),(1,0,ahB),(1,0,ahB),(1,0,pT),(1,0,pT),(1,reachBytes*0+1,aK6)])
  ⟨qA,rq ax (ar (3,0,1) aF),qA,rq ax (ar (3,1,1) aF),O9,Tj (ar (38,2,2) aF),O9,Tj (ar (38,4,2) aF),qA,rq ax (ar (3,6,1) aF),avg,D.bool ax (ar (4,7,1) aF),avg,D.bool ax (ar (4,8,1) aF),qA,rq ax (ar (3,9,1) aF),qA,rq ax (ar (2,10,1) aF),mS.up O9,D.row O9 ax ax bo (dM ax) (λc aB=>Tj aB) (ar (40,11,1) aF),ao⟩
 refine D.mono this Jq ?_;rintro H eJ _ ⟨_,_,rfl,⟨op,rfl,J⟩,_,_,rfl,⟨dst,rfl,ab⟩,_,_,rfl,⟨a,rfl,aK⟩,_,_,rfl,⟨b,rfl,br⟩,_,_,rfl,⟨size,rfl,cz⟩,_,_,rfl,⟨gA,rfl⟩,_,_,rfl,⟨aK8,rfl⟩,_,_,rfl,⟨ref,rfl,gx⟩,_,_,rfl,⟨off,rfl,j7⟩,_,_,rfl,aM,rfl⟩;obtain⟨A,c,l,rfl,aC,aj,ak,_⟩:=BE (R:=λ_=>kL) aM;exact⟨⟨op,dst,a,b,size,gA,aK8,ref,off,l⟩,⟨A,c,rfl,aC⟩,J,ab,aK,br,cz,gx,j7,bx ak bo,aj⟩
def ahD(_:aV)(eJ:List Value):Prop:=∃t,eJ=kr t/\kt.ok t
def aK9:qB ahD:=λ_ _ _ _ h=>h
def aLa{cs}(h:ie dy prog W 46 cs):D G g0 W cs 0 ahD:=by
 obtain⟨ao,ar⟩:=h.uH (l:=[(3,0,1),(3,1,1),(38,2,2),(38,4,2),(3,6,1),(3,7,1)]) ax ax;have:=Ah.d (g0:=g0) (G:=G) (W:=W) (l:=[(1,0,pT),(1,0,pT),(2,0,Lw),(2,0,Lw),(1,0,pT),(1,0,pT)])
  ⟨qA,rq ax (ar (3,0,1) aF),qA,rq ax (ar (3,1,1) aF),O9,Tj (ar (38,2,2) aF),O9,Tj (ar (38,4,2) aF),qA,rq ax (ar (3,6,1) aF),qA,rq ax (ar (3,7,1) aF),ao⟩
 refine D.mono this Jq ?_;rintro H eJ _ ⟨_,_,rfl,⟨k,rfl,J⟩,_,_,rfl,⟨op,rfl,ab⟩,_,_,rfl,⟨a,rfl,aK⟩,_,_,rfl,⟨b,rfl,br⟩,_,_,rfl,⟨g,rfl,cz⟩,_,_,rfl,⟨e,rfl,gx⟩,rfl⟩;exact⟨⟨k,op,a,b,g,e⟩,rfl,J,ab,aK,br,cz,gx⟩
def ahE(h:aV)(eJ:List Value):Prop:=∃x,yb h eJ x/\bT.ok x
def avi:qB ahE:=λ_ _ _ hm ⟨x,aa,aj⟩=>⟨x,zP hm aa,aj⟩
def aLb{cs}(h:ie dy prog W 48 cs):D G g0 W cs (reachBytes*1+1) ahE:=by
 obtain⟨ao,ar⟩:=h.uH (l:=[(43,0,1),(46,1,8)]) ax ax;have:=Ah.d (g0:=g0) (G:=G) (W:=W) (l:=[(1,reachBytes*1+1,mS 12 reachBytes ahA),(8,0,ahD)])
  ⟨mS.up avf,D.row avf ax ax bo (dM ax) (λc aB=>aK7 aB) (ar (43,0,1) aF),aK9,aLa (ar (46,1,8) aF),ao⟩
 refine D.mono this Jq ?_;rintro H eJ _ ⟨_,_,rfl,aM,_,_,rfl,⟨t,rfl,aS⟩,rfl⟩;obtain⟨A,c,l,rfl,aC,aj,ak,_⟩:=BE (R:=HU) aM;exact⟨⟨l,t⟩,⟨A,c,rfl,aC⟩,bx ak bo,aj,aS⟩
def Zk:Nat:=1+1+(reachBytes*(reachBytes*1+1)+1)
def Tk(_:aV)(eJ:List Value):Prop:=∃n,E9 eJ n/\(0<=n/\n<=255)
def Pa:qB Tk:=λ_ _ _ _ h=>h
def ahF{cs}(h:ie dy prog W 5 cs):D G g0 W cs 0 Tk:=(D.int (k:=.u8) ax h).mono (b4 _) λ_ _ _ ⟨n,e,J,ab⟩=>by
 rw[(bo:IntKind.u8.min=0)] at J;rw[(bo:IntKind.u8.max=255)] at ab;exact⟨n,e,J,ab⟩
def ahG(h:aV)(eJ:List Value):Prop:=∃x,Od h eJ x/\zI.ok x
def avj:qB ahG:=λ_ _ _ hm ⟨x,aa,aj⟩=>⟨x,afH hm aa,aj⟩
def aLc{cs}(h:ie dy prog W 75 cs):D G g0 W cs 1 ahG:=by
 obtain⟨ao,ar⟩:=h.uH (l:=[(3,0,1),(26,1,1),(3,2,1)]) ax ax;have:=Ah.d (g0:=g0) (G:=G) (W:=W) (l:=[(1,0,pT),(1,reachBytes*0+1,mS 1 reachBytes Tk),(1,0,pT)])
  ⟨qA,rq ax (ar (3,0,1) aF),mS.up Pa,D.row Pa ax ax bo (dM ax) (λc aB=>ahF aB) (ar (26,1,1) aF),qA,rq ax (ar (3,2,1) aF),ao⟩
 refine D.mono this Jq ?_;rintro H eJ _ ⟨_,_,rfl,⟨k,rfl,J⟩,_,_,rfl,aM,_,_,rfl,⟨n,rfl,ab⟩,rfl⟩;obtain⟨A,c,l,rfl,aC,aj,ak,_⟩:=BE (R:=λ_=>E9) aM;exact⟨⟨k,l,n⟩,⟨A,c,rfl,aC⟩,J,ab,bx ak bo,aj⟩
def ahH(h:aV)(eJ:List Value):Prop:=∃x,CM h eJ x/\CK.ok x
def avk:qB ahH:=λ_ _ _ hm ⟨x,aa,aj⟩=>⟨x,AP hm aa,aj⟩
def aLd{cs}(h:ie dy prog W 73 cs):D G g0 W cs (reachBytes*1+1) ahH:=by
 obtain⟨ao,ar⟩:=h.uH (l:=[(9,0,1),(3,1,1),(3,2,1),(71,3,1)]) ax ax;have:=Ah.d (g0:=g0) (G:=G) (W:=W) (l:=[(1,0,ahC),(1,0,pT),(1,0,pT),(1,reachBytes*1+1,mS 3 reachBytes ahG)])
  ⟨avh,D.string ax (ar (9,0,1) aF),qA,rq ax (ar (3,1,1) aF),qA,rq ax (ar (3,2,1) aF),mS.up avj,D.row avj ax ax bo (dM ax) (λc aB=>aLc aB) (ar (71,3,1) aF),ao⟩
 refine D.mono this Jq ?_;rintro H eJ _ ⟨_,_,rfl,⟨A3,rfl,_⟩,_,_,rfl,⟨pl,rfl,J⟩,_,_,rfl,⟨sz,rfl,ab⟩,_,_,rfl,aM,rfl⟩;obtain⟨A,c,l,rfl,aC,aj,ak,_⟩:=BE (R:=Od) aM;exact⟨⟨A3,pl,sz,l⟩,⟨A,c,rfl,aC⟩,J,ab,bx ak bo,aj⟩
def avl:Nat:=reachBytes*Zk+1+(reachBytes*(reachBytes*1+1)+1)
end
section
variable{H:Type}{dy:TypeId×Value->H}{W:World}{G:Nat}{g0:Nat->Option cd}
def aLe{P}(f:laidOutB P=true){W W'}(I:Below W.heap.size W W'):∀{ts:List TypeId}{vs:List Value}{a:List (DataW H)}{c:List MemPlace},(∀t∈ts,P.readableRec t=true/\t<P.types.size)->(∀x∈c,x.block<W.heap.size)->DataW.TrodAll dy P W 0 (λ_=>true) true ts vs a c->DataW.TrodAll dy P W' 0 (λb=>decide (b<W.heap.size)) true ts vs a c:=by
 intro ts;induction ts with
 | nil =>
  intro vs a c _ _ h;cases vs with
  | nil=>cases a with
   | nil=>exact h
   | cons d a=>exact h.elim
  | cons v vs=>exact h.elim
 | cons t ts i =>
  intro vs a c aS aa h;rcases vs with _|⟨v,vs⟩
  .exact h.elim
  .rcases a with _|⟨d,a⟩
   .exact h.elim
   .obtain⟨p,q,J,g,rfl⟩:=h;exact⟨p,q,Below.trod f (aS t aF).1 (aS t aF).2 J I λx e=>aa x (by simp[e]),i (λt j=>aS t (by simp[j])) (λx e=>aa x (by simp[e])) g,rfl⟩
def Tryz.fC:ownKnob prog.godebug=none:=ax
def Tryz.laidOut:laidOutB prog=true:=ax
def ie.of{P W t v d p}(h:DataW.Trod dy P W 0 (λ_=>true) true t v d p)(hw:okW (d.weights P t)):ie dy P W t v.cells.toList:=by
 have⟨bu,h⟩:=h;exact⟨bu,(d,p),h,hw⟩
def aLf{P W bD c a t b}(aS:P.underlying t=some .bool):DataW.Trod dy P W bD c a t (.bool b) (.lit (.bool b)) []:=⟨1,by simp[DataW.trod,Value.cells,aS]⟩
end
section
variable{H:Type}{dy:TypeId×Value->H}{W:World}{G:Nat}{g0:Nat->Option cd}
def Zl(h:aV)(eJ:List Value):Prop:=∃bj eb aW a8 eo aT b2 bI,eJ=[.slice bj eb aW,.slice a8 eo aT]/\((∀a,bj=some a->a.spot=none)->nI h bj eb aW b2)/\((∀a,a8=some a->a.spot=none)->nI h a8 eo aT bI)
def aLg:qB Zl:=λ_ _ _ hm ⟨c,b,i,k,a,j,f,d,e,J,g⟩=>⟨c,b,i,k,a,j,f,d,e,λh=>(J h).up hm,λh=>(g h).up hm⟩
def avm{cs}(h:ie dy prog W 28 cs):D G g0 W cs 2 Zl:=by
 obtain⟨ao,ar⟩:=h.uH (l:=[(26,0,1),(26,1,1)]) ax ax;have:=Ah.d (g0:=g0) (G:=G) (W:=W) (l:=[(1,reachBytes*0+1,mS 1 reachBytes Tk),(1,reachBytes*0+1,mS 1 reachBytes Tk)])
  ⟨mS.up Pa,D.row Pa ax ax bo (dM ax) (λc aB=>ahF aB) (ar (26,0,1) aF),mS.up Pa,D.row Pa ax ax bo (dM ax) (λc aB=>ahF aB) (ar (26,1,1) aF),ao⟩
 refine D.mono this Jq ?_;rintro H eJ _ ⟨_,_,rfl,fq,_,_,rfl,lV,rfl⟩;obtain⟨bj,aW,fY,rfl,nA,fV,BF,qR,mA,z8⟩:=BE (R:=λ_=>E9) fq;obtain⟨a8,aT,hh,rfl,rO,hk,nJ,k6,Kf,K1⟩:=BE (R:=λ_=>E9) lV;exact⟨bj,fY.length,aW,a8,hh.length,aT,fY,hh,rfl,λh=>⟨nA,rfl,qR,mA,z8,h⟩,λh=>⟨rO,rfl,k6,Kf,K1,h⟩⟩
variable{H:Type}{dy:TypeId×Value->H}{G:Nat}{g0:Nat->Option cd}{W:World}
def ahI(_:aV)(eJ:List Value):Prop:=∃b,Zm eJ b/\True
def avn:qB ahI:=λ_ _ _ _ h=>h
def aLh{cs}(h:ie dy prog W 4 cs):D G g0 W cs 0 ahI:=(D.bool ax h).mono (b4 _) λ_ _ _ ⟨b,e⟩=>⟨b,e,ew⟩
variable{H:Type}{dy:TypeId×Value->H}{G:Nat}{g0:Nat->Option cd}{W:World}
def ahJ(h:aV)(eJ:List Value):Prop:=∃x,lb h eJ x/\dp.ok x/\x.name.data.size<=140737488351232
def avo:qB ahJ:=λ_ _ _ hm ⟨x,aa,aj⟩=>⟨x,lp hm aa,aj⟩
def aLi{cs}(h:ie dy prog W 53 cs):D G g0 W cs Zk ahJ:=by
 obtain⟨ao,ar⟩:=h.uH (l:=[(9,0,1),(3,1,1),(50,2,1),(3,3,1),(51,4,1),(49,5,1)]) ax ax;have:=Ah.d (g0:=g0) (G:=G) (W:=W) (l:=[(1,0,ahC),(1,0,pT),(1,reachBytes*0+1,mS 1 reachBytes ahI),(1,0,pT),(1,reachBytes*0+1,mS 1 reachBytes pT),(1,reachBytes*(reachBytes*1+1)+1,mS 9 reachBytes ahE)])
  ⟨avh,D.string ax (ar (9,0,1) aF),qA,rq ax (ar (3,1,1) aF),mS.up avn,D.row avn ax ax bo (dM ax) (λc aB=>aLh aB) (ar (50,2,1) aF),qA,rq ax (ar (3,3,1) aF),mS.up qA,D.row (e:=3) qA ax ax bo (dM ax) (λc aB=>rq ax aB) (ar (51,4,1) aF),mS.up avi,D.row avi ax ax bo (dM ax) (λc aB=>aLb aB) (ar (49,5,1) aF),ao⟩
 refine D.mono this (by simp[Qn,Zk];omega) ?_;rintro H eJ _ ⟨_,_,rfl,⟨A3,rfl,mz⟩,_,_,rfl,⟨ES,rfl,J⟩,_,_,rfl,fq,_,_,rfl,⟨rg,rfl,ab⟩,_,_,rfl,lV,_,_,rfl,OB,rfl⟩;obtain⟨bj,aW,fY,rfl,nA,_,BF,_⟩:=BE (R:=λ_=>Zm) (K:=λ_=>True) fq;obtain⟨a8,aT,hh,rfl,rO,hk,nJ,_⟩:=BE (R:=λ_=>CP) (K:=b8) lV;obtain⟨dr,bn,CN,rfl,Tl,tI,Pb,_⟩:=BE (R:=yb) OB;exact⟨⟨A3,ES,fY.length,rg,hh,CN⟩,⟨bj,aW,a8,aT,dr,bn,fY,rfl,rfl,nA,rO,Tl⟩,⟨J,ab,bx BF bo,bx nJ bo,hk,bx Pb bo,tI⟩,mz⟩
def avp(h:aV)(eJ:List Value):Prop:=∃p bj aW a8 aT,eJ=hd p bj aW a8 aT/\c0 h bj 6 p.funcs (lb h)/\c0 h a8 4 p.globals (CM h)/\p.ok/\∀f∈p.funcs,f.name.data.size<=140737488351232
def aLj:qB avp:=λ_ _ _ hm ⟨p,a,c,g,d,e,J,b,f⟩=>⟨p,a,c,g,d,e,J.mono hm λ_ _ h=>lp hm h,b.mono hm λ_ _ h=>AP hm h,f⟩
def aLk{cs}(h:ie dy prog W 25 cs):D G g0 W cs avl avp:=by
 obtain⟨ao,ar⟩:=h.uH (l:=[(22,0,1),(23,1,1),(3,2,1),(3,3,1)]) ax ax;have:=Ah.d (g0:=g0) (G:=G) (W:=W) (l:=[(1,reachBytes*Zk+1,mS 6 reachBytes ahJ),(1,reachBytes*(reachBytes*1+1)+1,mS 4 reachBytes ahH),(1,0,pT),(1,0,pT)])
  ⟨mS.up avo,D.row avo ax ax bo (dM ax) (λc aB=>aLi aB) (ar (22,0,1) aF),mS.up avk,D.row avk ax ax bo (dM ax) (λc aB=>aLd aB) (ar (23,1,1) aF),qA,rq ax (ar (3,2,1) aF),qA,rq ax (ar (3,3,1) aF),ao⟩
 refine D.mono this (by simp[Qn,avl]) ?_;rintro H eJ _ ⟨_,_,rfl,fq,_,_,rfl,lV,_,_,rfl,⟨d,rfl,J⟩,_,_,rfl,⟨m,rfl,ab⟩,rfl⟩;obtain⟨bj,aW,fY,rfl,nA,fV,BF,_⟩:=BE (R:=lb) fq;obtain⟨a8,aT,hh,rfl,rO,hk,nJ,_⟩:=BE (R:=CM) lV;exact⟨⟨fY,hh,d,m⟩,bj,aW,a8,aT,rfl,nA,rO,⟨bx BF bo,λf ar=>(fV f ar).1,bx nJ bo,hk,J,ab⟩,λf ar=>(fV f ar).2⟩
end
def aLl{H}{dy:TypeId×Value->H}{P w bD sp held bu t e n cs}{jr:List ByteArray}{p}(aS:P.underlying t=some (.array n e))(he:P.underlying e=some .string)(aLm:P.cellsOf e=1)(aLn:P.cellsOf t=n)(h:DataW.trod dy P w bD sp held bu t cs=some (.agg (jr.map λz=>.lit (.string z.data.toList)),p)):cs=jr.map Value.string:=by
 rcases bu with _|bu
 .simp[DataW.trod] at h
 .simp only[DataW.trod,aS,aLm,aLn,iV] at h;split at h
  .rename_i ao;have⟨xs,hm,aa⟩:=GB.1 h;have xH:xs.map (·.1)=jr.map λz=>(DataW.lit (.string z.data.toList):DataW H):=by
    have:=hq Prod.fst aa;simpa using this
   have F3:xs.length=n:=by simpa using Lib.mapM_length hm
   have aSM:jr.length=n:=by
    have:=hq List.length xH;simp at this;omega
   apply kg;intro i;by_cases ag:i<n
   .have⟨b,I,ar⟩:=Lib.mapM_at hm i i Mt;obtain⟨z,aB,rfl,_⟩:=DataW.trod_string he ar;have J:cs[i]?=some (.string z):=by
     have:=hq (·[0]?) aB;simpa[tl,xq] using this
    have ab:(xs.map (·.1))[i]?=some (DataW.lit (.string z.data.toList):DataW H):=by simp[I]
    rw[xH] at ab;simp only[gf,GB,DataW.lit.injEq,Lit.string.injEq] at ab;have⟨sa,aLo,e⟩:=ab;have:sa=z:=by
     cases sa;cases z;exact hq ByteArray.mk (k3 e)
    rw[J,gf,aLo,this];rfl
   .rw[wh U,wh jf]
  .exact jh
def Pc : List (String × DataW Unit) := [("math/bits.deBruijn32tab", Rows.laid_math_bits_deBruijn32tab), ("math/bits.deBruijn64tab", Rows.laid_math_bits_deBruijn64tab), ("internal/strconv.uint64pow10", Rows.laid_internal_strconv_uint64pow10), ("merlon/rtl.names", Rows.laid_merlon_rtl_names)]
def avq : prog.globalNamed "internal/strconv.uint64pow10" = some 1 := by kernel_rfl
def avr : prog.globalNamed "merlon/rtl.names" = some 0 := by kernel_rfl
def aLp:(prog.globals[1]?).map (·.type)=some 180:=ax
def aLq:(prog.globals[0]?).map (·.type)=some 82:=ax
def aLr:(Rows.laid_internal_strconv_uint64pow10:DataW Unit)=Lib.tabData .u64 Lib.pow10Tab:=ax
def aLs:(Rows.laid_merlon_rtl_names:DataW Unit)=.agg (Fz.map λz=>.lit (.string z.data.toList)):=ax
def aLt:prog.cellsOf 180=20:=ax
def aLu:prog.cellsOf 82=31:=ax
def aLv:prog.cellsOf 153=1:=ax
def aLw:prog.cellsOf 9=1:=ax
def aLx:∃z,((begin prog (λ_ _=>0) default).world.heap[1]?).bind Obj.row?=some (z,180):=by
 have⟨⟨z,t⟩,J,a⟩:=GB.1 (ax:(((begin prog (λ_ _=>0) default).world.heap[1]?).bind Obj.row?).map Prod.snd=some 180);simp only at a;subst a;exact⟨z,J⟩
def aLy:∃z,((begin prog (λ_ _=>0) default).world.heap[0]?).bind Obj.row?=some (z,82):=by
 have⟨⟨z,t⟩,J,a⟩:=GB.1 (ax:(((begin prog (λ_ _=>0) default).world.heap[0]?).bind Obj.row?).map Prod.snd=some 82);simp only at a;subst a;exact⟨z,J⟩
def avs:prog.globals.size=5:=ax
def aLz{W}(h: laidMetH prog Pc W): W.var? prog "internal/strconv.uint64pow10" = some (Lib.pow10Tab.map (Value.int .u64)).toArray /\ W.var? prog "merlon/rtl.names" = some (rm Fz).toArray := by
 rw[MakeChecks.laidMetH_plain _ _ _ ax] at h
 have⟨o,⟨_,_,_,_,_,_,_,_,_,_,⟨_,_,_,_,_,_,_,_,_,_,⟨g2,t2,u,f2,m,r,g,k,f,d,⟨g3,t3,s,f3,v,q,l,a,j,c,_,_⟩,_⟩,_⟩,_⟩,_⟩:=h
 obtain rfl:=uj (avq.symm.trans g)
 obtain rfl:=uj (aLp.symm.trans k)
 obtain rfl:=uj (avr.symm.trans l)
 obtain rfl:=uj (aLq.symm.trans a)
 rw[aLr] at d
 rw[aLs] at c
 refine⟨by rw[f,<-(Lib.cells_of_tab Tryz.underlying180 Tryz.underlying153 aLv aLt d)],?_⟩
 .rw[j]
  rw[rm,<-(aLl Tryz.underlying82 Tryz.underlying9 aLw aLu c)]
def aLB{W}(e:W.ShapedOpen prog)(l:laidMetH prog Pc W):∃g0:Nat->Option cd,(∀i b,i<prog.globals.size->g0 i=some b->(∃(tail:Array Value) (m:Nat×Nat),W.heap[i]?=some (.cells (b.cells++tail) b.elem m))/\∀v∈b.cells,bw 0 v)/\∀a,GT (qC prog.globals.size g0 a)/\FA (qC prog.globals.size g0 a):=by
 have⟨q,J⟩:=aLx;have⟨z0,h0⟩:=aLy;have⟨o,g,_,_⟩:=e.1 _ q _ (by rw[avs];decide) J;have⟨k,f,_,_⟩:=e.1 _ z0 _ (by rw[avs];decide) h0;have⟨bh,ak⟩:=aLz l;have n:o=(Lib.pow10Tab.map (Value.int .u64)).toArray:=by
  unfold World.var? at bh;rw[avq] at bh;simpa only[tm,g,dh] using bh
 have j:k=(rm Fz).toArray:=by
  unfold World.var? at ak;rw[avr] at ak;simpa only[tm,f,dh] using ak
 refine⟨λi=>if i=0 then bS (rm Fz) 82 else if i=1 then bS (Lib.pow10Tab.map (Value.int .u64)) 180 else none,λi b ag I=>?_,λa=>⟨⟨180,by simp[qC]⟩,⟨82,by simp[qC]⟩⟩⟩
 .dsimp only at I;by_cases d:i=0
  .rw[au d] at I;cases I;refine⟨⟨#[],_,by rw[d,f,j,PQ]⟩,λv aE=>?_⟩;have aE:v∈rm Fz:=lL;obtain⟨s,_,rfl⟩:=ih.1 aE;simp
  .rw[ai d] at I;by_cases c:i=1
   .rw[au c] at I;cases I;refine⟨⟨#[],_,by rw[c,g,n,PQ]⟩,λv aE=>?_⟩;have aE:v∈Lib.pow10Tab.map (Value.int .u64):=lL;obtain⟨s,_,rfl⟩:=ih.1 aE;simp
   .rw[ai c] at I;cases I
def aLC os args:laidMetH prog Pc ((World.doorLaid prog 4000 os).forCall (λ_ _=>0) ⟨#[],args,[]⟩).memory :=
 laidMetH_of_parts3 (fuel:=8) (laidMet_of_run' 8 ax ax) ax ax
end Go.Proofs.YtplleokmejppjaaGreatDoor
