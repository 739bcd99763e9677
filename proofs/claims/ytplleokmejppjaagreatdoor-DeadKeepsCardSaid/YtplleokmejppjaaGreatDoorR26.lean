/- Contracts of functions that the law reaches -/
import Derived.Test.YtplleokmejppjaaGreatDoorR25
set_option linter.all false
set_option maxHeartbeats 9999999
set_option maxRecDepth 100000
namespace Go.Proofs.YtplleokmejppjaaGreatDoor
open Go.AH
open Go.Proofs.Tryz
section
structure SQ(bl:List bT)(r:dc):Prop where
 z:cU r 0=true
 u7:∀(k:Nat) (b:bT),bl[k]?=some b->cU r (k:Int)=true->∀o∈di b.av,cU r o=true
def Y2{bl}(a:ln bl):SQ bl (gW bl):=by
 refine⟨(aef a.pos a.gV (sl 0) (by have:=a.pos;omega)).2 .zero,λk b I aM o aH=>?_⟩;have aj:=(cS.1 I).1;rcases(aee a.pos a.gV).done (k:Int) U U aM with h|h
 .exact jh
 .exact h o (by unfold q6;rwa[show((k:Int)).toNat=k from ry k,I])
def atL r k:∀(bl:List bT) (i j:Nat) (b:bT),bl[j]?=some b->cU r ((i+j:Nat):Int)=true->(di b.av).count k<=u9 r k i bl
 | [],i,j,b,h,_=>p2
 | c::bl,i,0,b,h,aM=>by
  obtain rfl:c=b:=lM;rw[u9,au ab5];omega
 | c::bl,i,j+1,b,h,aM=>by
  rw[u9];have:=atL r k bl (i+1) j b lM abn;omega
def ag0 r k:∀(bl:List bT) (i d a:Nat) (b1 e:bT),d<a->bl[d]?=some b1->bl[a]?=some e->cU r ((i+d:Nat):Int)=true->cU r ((i+a:Nat):Int)=true->(di b1.av).count k+(di e.av).count k<=u9 r k i bl
 | [],i,d,a,b1,e,_,h,_,_,_=>p2
 | c::bl,i,0,a,b1,e,m,J,ab,g,l=>by
  obtain rfl:c=b1:=p0;obtain⟨j,rfl⟩:∃j,a=j+1:=⟨a-1,U⟩;rw[u9,au (by simpa using g)];have:=atL r k bl (i+1) j e tn abn;omega
 | c::bl,i,d+1,a,b1,e,m,J,ab,g,l=>by
  obtain⟨j,rfl⟩:∃j,a=j+1:=⟨a-1,U⟩;rw[u9];have:=ag0 r k bl (i+1) d j b1 e U p0 tn (by rwa[show i+1+d=i+(d+1) by omega]) abn;omega
structure Ij(bl:List bT)(r:dc)where
 j:Nat
 n:Nat
 b:bT
 I:bl[j]?=some b
 aM:cU r (j:Int)=true
structure o9(bl:List bT)(r:dc)(i:Nat)(b o:bT):Prop where
 gj:ln bl
 ON:SQ bl r
 I:bl[i]?=some b
 aM:cU r (i:Int)=true
 bp:b.av.bp=1
 VY:b.av.goto≠(i:Int)
 n0:b.av.goto≠0
 aH:bl[b.av.goto.toNat]?=some o
 one:vU bl r b.av.goto=1
section
variable{bl:List bT}{r:dc}{i:Nat}{b o:bT}
def o9.bK(h:o9 bl r i b o):0<=b.av.goto/\b.av.goto<bl.length:=h.gj.gV b (bQ h.I) _ abB
def o9.atM(h:o9 bl r i b o):cU r b.av.goto=true:=h.ON.u7 i b h.I h.aM _ abB
def o9.else(h:o9 bl r i b o){j:Nat}{c}(aB:bl[j]?=some c)(aA:cU r (j:Int)=true)(il:j≠i):b.av.goto∉di c.av:=by
 intro hm;have J:1<=(di c.av).count b.av.goto:=List.count_pos_iff.2 hm;have ab:(di b.av).count b.av.goto=1:=abB;have aK:=h.one;unfold vU at aK;rcases PY j i with bs|n8
 .have:=ag0 r b.av.goto bl 0 j i c b bs aB h.I Qu (by simpa using h.aM);omega
 .have:=ag0 r b.av.goto bl 0 i j b c U h.I aB (by simpa using h.aM) Qu;omega
def o9.aI(h:o9 bl r i b o):me bl i b.av.goto=(bl.set i ⟨b.ah++o.ah,o.av⟩).set b.av.goto.toNat ⟨[],qy⟩:=by
 rw[me,h.I,h.aH]
def o9.get(h:o9 bl r i b o)j:(me bl i b.av.goto)[j]?=if b.av.goto.toNat=j then some ⟨[],qy⟩ else if i=j then some ⟨b.ah++o.ah,o.av⟩ else bl[j]?:=by
 rw[h.aI,fl,fl,mq];have aj:=h.bK;by_cases e:b.av.goto.toNat=j
 .subst e;rw[au rfl,au rfl,au U]
 .rw[ai e,ai e];by_cases a1:i=j
  .subst a1;rw[au rfl,au rfl,au ((cS.1 h.I).1)]
  .exact VU
def o9.len(h:o9 bl r i b o):(me bl i b.av.goto).length=bl.length:=by rw[h.aI,mq,mq]
def o9.mem(h:o9 bl r i b o){c}(aB:c∈me bl i b.av.goto):c=⟨[],qy⟩\/c=⟨b.ah++o.ah,o.av⟩\/c∈bl:=by
 have⟨j,aA⟩:=nO.1 aB;rw[h.get] at aA;split at aA
 .injection aA with aA;exact .inl aA.symm
 .split at aA
  .injection aA with aA;exact .inr (.inl aA.symm)
  .exact .inr (.inr (bQ aA))
def o9.Lb(h:o9 bl r i b o):ln (me bl i b.av.goto):=by
 have vV:=bQ h.aH;refine⟨h.len▸h.gj.pos,λc aB x aa=>?_,λc aB=>?_,λc aB k aj=>?_⟩
 .rcases h.mem aB with rfl|rfl|aB
  .cases aa
  .rcases ha.1 aa with aa|aa
   .exact h.gj.op b (bQ h.I) x aa
   .exact h.gj.op o vV x aa
  .exact h.gj.op c aB x aa
 .rcases h.mem aB with rfl|rfl|aB
  .exact⟨bo,bo⟩
  .exact h.gj.bp o vV
  .exact h.gj.bp c aB
 .rw[h.len];rcases h.mem aB with rfl|rfl|aB
  .exact absurd aj (by unfold di qy;simp)
  .exact h.gj.gV o vV k aj
  .exact h.gj.gV c aB k aj
def o9.atN(h:o9 bl r i b o):SQ (me bl i b.av.goto) (o6 r b.av.goto):=by
 have aj:=h.bK;refine⟨by rw[G4,h.ON.z];simp[h.n0],λj c aB aA x aa=>?_⟩;rw[G4,cA] at aA;have tp:¬b.av.goto=(j:Int):=by simpa using aA.2
 rw[h.get,ai U] at aB;rw[G4];by_cases e:i=j
 .subst e;rw[au rfl] at aB;cases aB;have bM:b.av.goto.toNat≠i:=by have:=h.VY;omega
  have vq:cU r ((b.av.goto.toNat:Nat):Int)=true:=tk aj.1▸h.atM;have J:=h.ON.u7 _ o h.aH vq x aa;have ab:=h.else h.aH vq bM;rw[J];have:¬b.av.goto=x:=λe=>ab (by rwa[e]);simp[this]
 .rw[ai e] at aB;have J:=h.ON.u7 j c aB aA.1 x aa;have ab:=h.else aB aA.1 (λa1=>e a1.symm);rw[J];have:¬b.av.goto=x:=λe=>ab (by rwa[e]);simp[this]
end
noncomputable def Ld(bl:List bT)(r:dc)(i:Nat)(o:bT):Bx (Ij bl r) where
 xs c:=c.b.ah.drop c.n
 lj c:=if c.j=i then c.b.ah.drop c.n++o.ah else c.b.ah.drop c.n
 t c:=c.b.av
 b3 c:=if c.j=i then o.av else c.b.av
 A _:=λ_=>True
section
variable{f:dp}{r:dc}{i:Nat}{b o:bT}
def aIG(h:o9 f.blocks r i b o)c:∃a,OE f {f with blocks:=me f.blocks i b.av.goto} (Ld f.blocks r i o) c a:=by
 have dZ:=bQ c.I;have jd:∀d:Ij f.blocks r,(Ld f.blocks r i o).Sub d c:=λ_ _ _ _=>trivial;have aj:=h.bK;cases aq:c.b.ah.drop c.n with
 | cons x l =>
  have sI:c.b.ah.drop (c.n+1)=l:=Vm;refine⟨.both ⟨c.j,c.n+1,c.b,c.I,c.aM⟩,x,?_,?_,rfl,rfl,h.gj.op _ dZ x (Gz VO),FK,λ_ _ _=>.inl trivial⟩
  .show c.b.ah.drop c.n=x::c.b.ah.drop (c.n+1);rw[aq,sI]
  .show(if c.j=i then c.b.ah.drop c.n++o.ah else c.b.ah.drop c.n)=x::(if c.j=i then c.b.ah.drop (c.n+1)++o.ah else c.b.ah.drop (c.n+1));rw[aq,sI];split<;>rfl
 | nil =>
  have FL:(Ld f.blocks r i o).xs c=[]:=aq;by_cases il:c.j=i
  .have dR:=c.I;rw[il,h.I] at dR;injection dR with dR;have vq:cU r ((b.av.goto.toNat:Nat):Int)=true:=tk aj.1▸h.atM;have bM:b.av.goto.toNat≠i:=by have:=h.VY;omega
   refine⟨.dC ⟨b.av.goto.toNat,0,o,h.aH,vq⟩,FL,?_,⟨o,?_,rfl,rfl⟩,?_,?_,jd _⟩
   .show c.b.av.bp=1;exact dR▸h.bp
   .show f.blocks[c.b.av.goto.toNat]?=some o;exact dR▸h.aH
   .show(if b.av.goto.toNat=i then o.ah.drop 0++o.ah else o.ah.drop 0)=(if c.j=i then c.b.ah.drop c.n++o.ah else c.b.ah.drop c.n);rw[ai bM,au il,aq];rfl
   .show(if b.av.goto.toNat=i then o.av else o.av)=(if c.j=i then o.av else c.b.av);rw[ai bM,au il]
  .have Ii:(Ld f.blocks r i o).lj c=[]:=by
    show(if c.j=i then c.b.ah.drop c.n++o.ah else c.b.ah.drop c.n)=[];rw[ai il,aq]
   have VM:(Ld f.blocks r i o).b3 c=c.b.av:=ai il;have go:∀k∈di c.b.av,∃d:Ij f.blocks r,(Ld f.blocks r i o).yr f {f with blocks:=me f.blocks i b.av.goto} d k k:=by
    intro k hk;have vq:=h.gj.gV _ dZ k hk;have aIH:=h.ON.u7 _ _ c.I c.aM k hk;obtain⟨aT,k6⟩:∃b,f.blocks[k.toNat]?=some b:=⟨_,ey U⟩;have SR:cU r ((k.toNat:Nat):Int)=true:=amh;have bf:=h.get k.toNat;rw[ai (λe=>(h.else c.I c.aM il) (by rwa[show b.av.goto=k by omega]):¬b.av.goto.toNat=k.toNat)] at bf;by_cases e:i=k.toNat
    .rw[au e] at bf;have eh:aT=b:=by rw[<-e,h.I] at k6;injection k6 with k6;exact k6.symm
     refine⟨⟨k.toNat,0,aT,k6,SR⟩,aT,_,k6,bf,rfl,rfl,?_,?_⟩
     .show(if k.toNat=i then aT.ah.drop 0++o.ah else aT.ah.drop 0)=b.ah++o.ah;rw[au e.symm,eh];rfl
     .show(if k.toNat=i then o.av else aT.av)=o.av;rw[au e.symm]
    .rw[ai e,k6] at bf;refine⟨⟨k.toNat,0,aT,k6,SR⟩,aT,aT,k6,bf,rfl,rfl,?_,?_⟩
     .show(if k.toNat=i then aT.ah.drop 0++o.ah else aT.ah.drop 0)=aT.ah;rw[ai (λa1=>e a1.symm)];rfl
     .show(if k.toNat=i then o.av else aT.av)=aT.av;rw[ai (λa1=>e a1.symm)]
   have tI:=h.gj.bp _ dZ;by_cases eD:c.b.av.bp=3
   .exact⟨.ret,FL,Ii,eD,Mw,VV,FK⟩
   .by_cases bY:c.b.av.bp=1
    .have⟨d,AN⟩:=go c.b.av.goto Qh;exact⟨.jump d,FL,Ii,bY,Mw,Mw,jd d⟩
    .have dk:c.b.av.bp=2:=U;have⟨d,AN⟩:=go c.b.av.goto GM;have⟨e,MM⟩:=go c.b.av.dx GM;exact⟨.fork d e,FL,Ii,dk,Mw,VV,VV,VV,FK,Mw,Mw,jd d,jd e⟩
theorem aII(h:o9 f.blocks r i b o):Nonempty (View f {f with blocks:=me f.blocks i b.av.goto}):=by
 obtain⟨mH,dR⟩:∃b,f.blocks[0]?=some b:=⟨_,ey h.gj.pos⟩;have lr:=aIG h;have aj:=h.bK;have bf:=h.get 0;rw[ai (by have:=h.n0;omega)] at bf;refine⟨{C:=Ij f.blocks r,V:=Ld f.blocks r i o,act:=λc=>(lr c).choose,ok:=λc=>(lr c).choose_spec,iJ:=⟨0,0,mH,dR,h.ON.z⟩,SK:=?_,ae:=rfl,bZ:=rfl}⟩;by_cases e:i=0
 .rw[au e] at bf;have eh:mH=b:=by have:=h.I;rw[e,dR] at this;injection this
  refine⟨mH,_,dR,bf,rfl,rfl,?_,?_⟩
  .show(if 0=i then mH.ah.drop 0++o.ah else mH.ah.drop 0)=b.ah++o.ah;rw[au e.symm,eh];rfl
  .show(if 0=i then o.av else mH.av)=o.av;rw[au e.symm]
 .rw[ai e,dR] at bf;refine⟨mH,mH,dR,bf,rfl,rfl,?_,?_⟩
  .show(if 0=i then mH.ah.drop 0++o.ah else mH.ah.drop 0)=mH.ah;rw[ai (λa1=>e a1.symm)];rfl
  .show(if 0=i then o.av else mH.av)=mH.av;rw[ai (λa1=>e a1.symm)]
end
def atO(i:Nat):∀(m:Nat) (f:dp) (r:dc),ln f.blocks->SQ f.blocks r->cU r (i:Int)=true->tX f {f with blocks:=uY i m f.blocks r}/\ln (uY i m f.blocks r)
 | 0,f,r,g,_,_=>⟨.refl,g⟩
 | m+1,f,r,g,u,ag=>by
  rw[uY];rcases I:f.blocks[i]? with _|b
  .exact⟨.refl,g⟩
  .dsimp only;by_cases aB:b.av.bp≠1\/b.av.goto=i\/b.av.goto=0\/vU f.blocks r b.av.goto≠1
   .exact au aB▸⟨.refl,g⟩
   .rw[ai aB];have bY:b.av.bp=1:=by
     by_cases h:b.av.bp=1
     .exact h
     .exact absurd (.inl h) aB
    have vq:=g.gV b (bQ I) b.av.goto Qh;have⟨o,aH⟩:=cR f.blocks b.av.goto.toNat U;have ek:o9 f.blocks r i b o:=⟨g,u,I,ag,bY,λh=>aB (.inr (.inl h)),λh=>aB (.inr (.inr (.inl h))),aH,by
     by_cases h:vU f.blocks r b.av.goto=1
     .exact h
     .exact absurd (.inr (.inr (.inr h))) aB⟩
    have⟨J,ab⟩:=atO i m {f with blocks:=me f.blocks i b.av.goto} (o6 r b.av.goto) ek.Lb ek.atN alY;exact⟨.step (aII ek) rfl ek.Lb J,ab⟩
def aIJ f(a:ln f.blocks) i:tX f {f with blocks:=x6 f.blocks i}/\ln (x6 f.blocks i):=by
 unfold x6;split
 .rename_i h;exact atO i _ f _ a (Y2 a) h
 .exact⟨.refl,a⟩
def atP n:∀(d:Nat) (f:dp),ln f.blocks->tX f {f with blocks:=sT n d f.blocks}/\ln (sT n d f.blocks)
 | 0,f,a=>⟨.refl,a⟩
 | d+1,f,a=>by
  have⟨J,g⟩:=aIJ f a (n-(d+1));have⟨h,e⟩:=atP n d {f with blocks:=x6 f.blocks (n-(d+1))} g;exact⟨J.trans h,e⟩
def Le(bl:List bT)(r:dc)(pl:List Int):Bx (Ij bl r) where
 xs c:=c.b.ah.drop c.n
 lj c:=c.b.ah.drop c.n
 t c:=c.b.av
 b3 c:=hX pl c.b.av
 A _:=λ_=>True
def atQ{bl}{k:Nat}{b}(I:bl[k]?=some b)(aj:cU (gW bl) (k:Int)=true):
 (lf bl)[((pF (gW bl) bl.length 0 0)[k]?.getD 0).toNat]?=some {b with av:=hX (pF (gW bl) bl.length 0 0) b.av}:=by
 rw[aei (gW bl) bl 0 0 k (cS.1 I).1];rw[lf,gf];have e:((((0+(jl (gW bl) 0 (bl.take k)).length:Nat):Int))).toNat=tE (gW bl) bl k:=by rw[ff];rfl
 rw[yG,e,(XN I aj).1];rfl
def aIK{f}(m:ln f.blocks)c:∃a,OE f {f with blocks:=lf f.blocks} (Le f.blocks (gW f.blocks) (pF (gW f.blocks) f.blocks.length 0 0)) c a:=by
 have w:=bQ c.I;generalize D:pF (gW f.blocks) f.blocks.length 0 0=g;have v:∀d:Ij f.blocks (gW f.blocks),(Le f.blocks (gW f.blocks) g).Sub d c:=λ_ _ _ _=>trivial;cases aq:c.b.ah.drop c.n with
 | cons x l =>
  have z:c.b.ah.drop (c.n+1)=l:=Vm;refine⟨.both ⟨c.j,c.n+1,c.b,c.I,c.aM⟩,x,?_,?_,rfl,rfl,m.op _ w x (Gz VO),FK,λ_ _ _=>.inl trivial⟩
  .show c.b.ah.drop c.n=x::c.b.ah.drop (c.n+1);rw[aq,z]
  .show c.b.ah.drop c.n=x::c.b.ah.drop (c.n+1);rw[aq,z]
 | nil =>
  have go:∀k∈di c.b.av,∃d:Ij f.blocks (gW f.blocks),(Le f.blocks (gW f.blocks) g).yr f {f with blocks:=lf f.blocks} d k (g[k.toNat]?.getD 0):=by
   intro k A;have vq:=m.gV _ w k A;have F:=(Y2 m).u7 _ _ c.I c.aM k A;have⟨B,u⟩:=cR f.blocks k.toNat U;have C:cU (gW f.blocks) ((k.toNat:Nat):Int)=true:=amh;have J:=atQ u C;rw[D] at J;exact⟨⟨k.toNat,0,B,u,C⟩,B,_,u,J,rfl,rfl,rfl,rfl⟩
  have H:=m.bp _ w;by_cases E:c.b.av.bp=3
  .have e:hX g c.b.av=c.b.av:=by rw[hX,ai U,ai U]
   exact⟨.ret,aq,aq,E,by show(hX g c.b.av).bp=3;rwa[e],by show(hX g c.b.av).a=_;rw[e];rfl,FK⟩
  .by_cases bY:c.b.av.bp=1
   .have e:hX g c.b.av={c.b.av with goto:=g[c.b.av.goto.toNat]?.getD 0}:=by rw[hX,au bY]
    have⟨d,G⟩:=go c.b.av.goto Qh;exact⟨.jump d,aq,aq,bY,by show(hX g c.b.av).bp=1;rwa[e],by show(Le f.blocks (gW f.blocks) g).yr f _ d c.b.av.goto (hX g c.b.av).goto;rwa[e],v d⟩
   .have dk:c.b.av.bp=2:=U;have e:hX g c.b.av={c.b.av with goto:=g[c.b.av.goto.toNat]?.getD 0,dx:=g[c.b.av.dx.toNat]?.getD 0}:=by rw[hX,ai bY,au dk]
    have⟨d,G⟩:=go c.b.av.goto GM;have⟨y,K⟩:=go c.b.av.dx GM;refine⟨.fork d y,aq,aq,dk,?_,?_,?_,?_,FK,?_,?_,v d,v y⟩
    .show(hX g c.b.av).bp=2;rwa[e]
    .show(hX g c.b.av).op=_;rw[e];rfl
    .show(hX g c.b.av).a=_;rw[e];rfl
    .show(hX g c.b.av).b=_;rw[e];rfl
    .show(Le f.blocks (gW f.blocks) g).yr f _ d c.b.av.goto (hX g c.b.av).goto;rwa[e]
    .show(Le f.blocks (gW f.blocks) g).yr f _ y c.b.av.dx (hX g c.b.av).dx;rwa[e]
theorem aIL{f}(a:ln f.blocks):Nonempty (View f {f with blocks:=lf f.blocks}):=by
 have h:=aIK a;obtain⟨g,d⟩:∃b,f.blocks[0]?=some b:=⟨_,ey a.pos⟩;have j:=(Y2 a).z;have J:=atQ d j;have e:(pF (gW f.blocks) f.blocks.length 0 0)[0]?.getD 0=0:=by
  rw[aei (gW f.blocks) f.blocks 0 0 0 a.pos];rfl
 rw[e] at J;exact⟨{C:=Ij f.blocks (gW f.blocks),V:=Le f.blocks (gW f.blocks) (pF (gW f.blocks) f.blocks.length 0 0),act:=λc=>(h c).choose,ok:=λc=>(h c).choose_spec,iJ:=⟨0,0,g,d,j⟩,SK:=⟨g,_,d,J,rfl,rfl,rfl,rfl⟩,ae:=rfl,bZ:=rfl}⟩
structure va(ae:Int)(t:kt):Prop where
 ok:t.ok
 bp:1<=t.bp/\t.bp<=3
 op:t.bp=2->16<=t.op/\t.op<=21
 reads:∀a∈e2 t,mg ae a
def va.goto{ae t}(h:va ae t){g}(bf:b8 g):va ae {t with goto:=g}:=⟨⟨h.ok.bp,h.ok.op,h.ok.a,h.ok.b,bf,h.ok.dx⟩,h.bp,h.op,h.reads⟩
def va.both{ae t}(h:va ae t){g e}(bf:b8 g)(he:b8 e):va ae {t with goto:=g,dx:=e}:=⟨⟨h.ok.bp,h.ok.op,h.ok.a,h.ok.b,bf,he⟩,h.bp,h.op,h.reads⟩
def yt:b8 0:=⟨U,U⟩
def va.jump ae{g}(bf:b8 g):va ae (rZ g):=⟨⟨YG,yt,⟨yt,yt⟩,⟨yt,yt⟩,bf,yt⟩,⟨(bo:(1:Int)<=1),(bo:(1:Int)<=3)⟩,λh=>absurd h (by show¬(1:Int)=2;decide),λa d=>absurd d (by unfold e2 rZ;simp)⟩
def aIM:b8 3:=⟨U,U⟩
def va.ret{ae}(h0:0<=ae):va ae qy:=by
 refine⟨⟨aIM,yt,⟨YF,yt⟩,⟨yt,yt⟩,yt,yt⟩,⟨bo,bo⟩,λh=>absurd h (by show¬(3:Int)=2;decide),λa d=>?_⟩;have:a=⟨-1,0⟩:=by unfold e2 qy at d;simpa using d
 subst this;exact afo h0 0
structure kd(ep:cO->Prop)(ae:Int)(N S:Nat)(bl:List bT):Prop where
 gj:ln bl
 len:bl.length<=N
 size:gJ bl<=S
 ah:∀b∈bl,∀x∈b.ah,ep x
 FM:∀b∈bl,va ae b.av
def size_set:∀{bl:List bT}{i:Nat}{b:bT} (c:bT),bl[i]?=some b->gJ (bl.set i c)+b.ah.length=gJ bl+c.ah.length
 | [],_,_,_,h=>p2
 | d::bl,0,b,c,h=>by
  obtain rfl:d=b:=lM;unfold gJ;simp[BZ,gg,nP];omega
 | d::bl,i+1,b,c,h=>by
  have a:=size_set c lM;unfold gJ at a|-;simp only[I6,gg,nP];omega
section
variable{ep:cO->Prop}{ae:Int}{N S:Nat}{bl:List bT}
def kd.jB(h:kd ep ae N S bl)(cj:N<=100000){k m:Int}(aj:0<=k/\k<bl.length)(aS:vT bl k m):b8 m:=by
 have:=aS.NC h.gj.gV aj;have:=h.len;exact⟨U,U⟩
def aIN(h:kd ep ae N S bl)(cj:N<=100000){b}(I:b∈bl):va ae (nT bl b.av):=by
 have aS:=h.FM b I;unfold nT;split
 .rename_i bY;exact aS.goto (h.jB cj (h.gj.gV b I b.av.goto Qh) (FJ bl _ _))
 .split
  .rename_i bY dk;have f1:=h.jB cj (h.gj.gV b I b.av.goto GM) (FJ bl bl.length _);split
   .exact va.jump _ f1
   .exact aS.both f1 (h.jB cj (h.gj.gV b I b.av.dx GM) (FJ bl bl.length _))
  .exact aS
def kd.tt(h:kd ep ae N S bl)(cj:N<=100000)(i:Nat):kd ep ae N S (tt bl i):=by
 have cZ:=atJ h.gj i;cases I:bl[i]? with
 | none =>
  have:Proofs.YtplleokmejppjaaGreatDoor.tt bl i=bl:=akz;rw[this];exact h
 | some b =>
  have e:Proofs.YtplleokmejppjaaGreatDoor.tt bl i=bl.set i {b with av:=nT bl b.av}:=akz;have dZ:=bQ I;refine⟨cZ.Lb,by rw[cZ.len];exact h.len,?_,λc aB x aa=>?_,λc aB=>?_⟩
  .have:=size_set (bl:=bl) {b with av:=nT bl b.av} I;rw[e];have ab:=h.size;dsimp only at this;omega
  .rw[e] at aB;rcases vh aB with aB|rfl
   .exact h.ah c aB x aa
   .exact h.ah b dZ x aa
  .rw[e] at aB;rcases vh aB with aB|rfl
   .exact h.FM c aB
   .exact aIN h cj dZ
def kd.sS(cj:N<=100000)(n:Nat):∀(d:Nat) {bl:List bT},kd ep ae N S bl->kd ep ae N S (sS n d bl)
 | 0,_,h=>h
 | d+1,_,h=>kd.sS cj n d (h.tt cj _)
def kd.me(h:kd ep ae N S bl)(h0:0<=ae){r:dc}{i:Nat}{b o:bT}(ek:o9 bl r i b o):kd ep ae N S (me bl i b.av.goto):=by
 have dZ:=bQ ek.I;have vV:=bQ ek.aH;refine⟨ek.Lb,by rw[ek.len];exact h.len,?_,λc aB x aa=>?_,λc aB=>?_⟩
 .have s1:=size_set (bl:=bl) ⟨b.ah++o.ah,o.av⟩ ek.I;have xC:(bl.set i ⟨b.ah++o.ah,o.av⟩)[b.av.goto.toNat]?=some o:=by
   rw[fl,ai (by have:=ek.VY;have:=ek.bK;omega)];exact ek.aH
  have s2:=size_set (bl:=bl.set i ⟨b.ah++o.ah,o.av⟩) ⟨[],qy⟩ xC;rw[ek.aI];have ab:=h.size;simp only[iM,vg] at s1 s2;omega
 .rcases ek.mem aB with rfl|rfl|aB
  .cases aa
  .rcases ha.1 aa with aa|aa
   .exact h.ah b dZ x aa
   .exact h.ah o vV x aa
  .exact h.ah c aB x aa
 .rcases ek.mem aB with rfl|rfl|aB
  .exact va.ret h0
  .exact h.FM o vV
  .exact h.FM c aB
def kd.uY(h0:0<=ae)(i:Nat):∀(m:Nat) {bl:List bT} (r:dc),kd ep ae N S bl->SQ bl r->cU r (i:Int)=true->kd ep ae N S (uY i m bl r)
 | 0,_,_,h,_,_=>h
 | m+1,bl,r,h,d,ag=>by
  rw[Proofs.YtplleokmejppjaaGreatDoor.uY];cases I:bl[i]? with
  | none=>exact h
  | some b =>
   dsimp only;by_cases aB:b.av.bp≠1\/b.av.goto=i\/b.av.goto=0\/vU bl r b.av.goto≠1
   .rw[au aB];exact h
   .rw[ai aB];have a:b.av.bp=1:=by
     by_cases h:b.av.bp=1
     .exact h
     .exact absurd (.inl h) aB
    have vq:=h.gj.gV b (bQ I) b.av.goto (by unfold di;rw[au a];simp);obtain⟨o,aH⟩:∃o,bl[b.av.goto.toNat]?=some o:=⟨_,ey U⟩;have ek:o9 bl r i b o:=⟨h.gj,d,I,ag,a,λh=>aB (.inr (.inl h)),λh=>aB (.inr (.inr (.inl h))),aH,by
     by_cases h:vU bl r b.av.goto=1
     .exact h
     .exact absurd (.inr (.inr (.inr h))) aB⟩
    exact kd.uY h0 i m (o6 r b.av.goto) (h.me h0 ek) ek.atN alY
def kd.x6(h:kd ep ae N S bl)(h0:0<=ae)(i:Nat):kd ep ae N S (x6 bl i):=by
 unfold Proofs.YtplleokmejppjaaGreatDoor.x6;split
 .rename_i aM;exact kd.uY h0 i _ _ h (Y2 h.gj) aM
 .exact h
def kd.sT(h0:0<=ae)(n:Nat):∀(d:Nat) {bl:List bT},kd ep ae N S bl->kd ep ae N S (sT n d bl)
 | 0,_,h=>h
 | d+1,_,h=>kd.sT h0 n d (h.x6 h0 _)
def alW r:∀(bl:List bT) (i:Nat) {b:bT},b∈jl r i bl->b∈bl
 | [],_,b,h=>h
 | c::bl,i,b,h=>by
  rw[jl] at h;split at h
  .rcases dI.1 h with rfl|h
   .exact aF
   .exact alV
  .exact alV
def atS r:∀(bl:List bT) (i:Nat),gJ (jl r i bl)<=gJ bl
 | [],_=>b4 _
 | c::bl,i=>by
  have a:=atS r bl (i+1);rw[jl];unfold gJ at a|-;split
  .simp[gg,nP];omega
  .simp[gg,nP];omega
def atT r:∀(m i n:Nat),∀k∈pF r m i n,0<=k/\k<=((n+m:Nat):Int)
 | 0,_,_,k,h=>jh
 | m+1,i,n,k,h=>by
  rw[pF] at h;rcases dI.1 h with rfl|h
  .exact U
  .have:=atT r m (i+1) _ k h;split at this<;>omega
def aIO{pl}(bh:∀k∈pl,b8 k){t}(h:va ae t):va ae (hX pl t):=by
 have ar:∀i:Nat,b8 (pl[i]?.getD 0):=λi=>by
  rcases aG:pl[i]? with _|k
  .exact yt
  .exact bh k (bQ aG)
 unfold hX;split
 .exact h.goto (ar _)
 .split
  .exact h.both (ar _) (ar _)
  .exact h
def kd.lf(h:kd ep ae N S bl)(cj:N<=100000)(bM:∀b∈bl,Kj b):kd ep ae N S (lf bl):=by
 have nX:=aBW h.gj.pos h.gj.gV bM;have dO:=h.len;have bh:∀k∈pF (gW bl) bl.length 0 0,b8 k:=λk aj=>by
  have:=atT _ _ _ _ k aj;exact⟨U,U⟩
 have e7:∀c∈Proofs.YtplleokmejppjaaGreatDoor.lf bl,∃b∈bl,c.ah=b.ah/\c.av=hX (pF (gW bl) bl.length 0 0) b.av:=by
  intro c aB;unfold Proofs.YtplleokmejppjaaGreatDoor.lf at aB;obtain⟨b,I,rfl⟩:=ih.1 aB;exact⟨b,alW _ _ _ I,rfl,rfl⟩
 have aj:∀{t:kt} (pl:List Int),(hX pl t).bp=t.bp:=λ{t} pl=>by unfold hX;split;rfl;split<;>rfl
 refine⟨⟨nX.pos,λc aB x aa=>?_,λc aB=>?_,nX.gV⟩,bx nX.le dO,?_,λc aB x aa=>?_,λc aB=>?_⟩
 .obtain⟨b,I,e,_⟩:=e7 c aB;rw[e] at aa;exact h.gj.op b I x aa
 .obtain⟨b,I,_,e⟩:=e7 c aB;rw[e,aj];exact h.gj.bp b I
 .unfold Proofs.YtplleokmejppjaaGreatDoor.lf gJ;rw[Gv];exact bx (atS (gW bl) bl 0) h.size
 .obtain⟨b,I,e,_⟩:=e7 c aB;rw[e] at aa;exact h.ah b I x aa
 .obtain⟨b,I,_,e⟩:=e7 c aB;rw[e];exact aIO bh (h.FM b I)
def kd.ways(h:kd ep ae N S bl)(cj:N<=100000)(h0:0<=ae):kd ep ae N S (vD bl):=by
 have⟨eb,eo,px⟩:=aBN h.gj.gV;exact(kd.sT h0 _ _ (kd.sS cj _ _ h):kd ep ae N S (FN (x5 bl))).lf cj (aBS _ _ ⟨eb,eo,rfl⟩).ne
end
def aIP{ep ae N S}f(h:kd ep ae N S f.blocks)(cj:N<=100000)(h0:0<=ae):tX f {f with blocks:=vD f.blocks}:=by
 have⟨v1,g1⟩:=aIF f h.gj;have⟨v2,g2⟩:=atP (x5 f.blocks).length (x5 f.blocks).length {f with blocks:=x5 f.blocks} g1;exact v1.trans (v2.trans (.step (aIL g2) rfl ((h.ways cj h0).gj) .refl))
def atU{p f}(h:pL p f){bl}(ao:ta f.blocks bl):pL p {f with blocks:=bl}:=by
 refine⟨h.params,h.hO,by show 0<bl.length;exact ao.1▸h.pos,λb' da x aa=>?_,λb' da=>?_⟩
 .have⟨b,I,_,aC⟩:=ao.mem da;exact X8 (f:=f) (f':={f with blocks:=bl}) ⟨rfl,rfl,λ_=>rfl⟩ rfl rfl (h.ah b I x (aC.subset aa))
 .have⟨b,I,aS,_⟩:=ao.mem da;have:=h.av b I;exact aS▸⟨this.bp,this.reads,this.op,by show ∀o∈di b.av,0<=o/\o<bl.length;rw[ao.1];exact this.next⟩
def aIQ{p ae bl ef}(h:vC ae bl ef):∀{f:dp},f.ae=ae->f.blocks=bl->pL p f->tX f {f with blocks:=ef}/\pL p {f with blocks:=ef}/\ta bl ef:=by
 induction h with
 | stop h he =>
  intro f aM I bz;subst I;subst aM;have bA:=atU bz h.less;exact⟨.step (atH bz h) rfl bA.gj .refl,bA,h.less⟩
 | go h ak aS aP =>
  rename_i aSy SS aSz;intro f aM I bz;subst I;subst aM;have bA:=atU bz h.less;have⟨J,ab,aK⟩:=aP (f:={f with blocks:=SS}) rfl rfl bA;exact⟨.step (atH bz h) rfl bA.gj J,ab,h.less.trans aK⟩
def FO(m:gm)(k:Int):Option ho:=(qe k m.eN 0).map λx=>⟨x.2.2.getD 1 0,x.2.2.getD 2 0⟩
def hA(m:gm)(a:ho)(but:Int):ho :=
 if 0<=a.ck then
  match FO m a.ck with
  | some o=>if o.ck<0\/o.ck≠but then o else a
  | none=>a
 else a
def mQ(k:Int)(a:ho):List Int:=[k,a.ck,a.num]
def xf(m:gm)(r:Int):gm:={m with eN:=m.eN.filter λrow=>decide (row.2.getD 1 0≠r)}
def Ik(x y:cO):Bool:=decide (x.op=y.op)&&(decide (x.a.ck=y.a.ck)&&decide (x.a.num=y.a.num))&&(decide (x.b.ck=y.b.ck)&&decide (x.b.num=y.b.num))&&decide (x.size=y.size)&&decide (x.signed=y.signed)&&decide (x.hO=y.hO)&&decide (x.ref=y.ref)&&decide (x.off=y.off)
def SU(x:cO):Bool:=decide (x.op=3\/x.op=5\/x.op=10\/x.op=11\/x.op=12\/x.op=16\/x.op=17)&&decide (x.a.ck<x.b.ck)
def lN(x:cO):cO:=if SU x=true then{x with a:=x.b,b:=x.a} else x
abbrev FP:=cO×Int
def mi:List FP->cO->Int
 | [],_=>-1
 | k::l,x=>if Ik k.1 x=true then k.2 else mi l x
def sf(w:List FP):List FP:=w.filter λk=>decide (k.1.op≠26)
def SV(r:Int)(k:FP):Bool:=decide (k.2≠r)&&decide (k.1.a.ck≠r)&&decide (k.1.b.ck≠r)
structure nk where
 m:gm
 w:List FP
def kz(s:nk)(r:Int):nk:=⟨xf (s.m.del r) r,s.w.filter (SV r)⟩
def FQ(s:nk)(k:Int)(a:ho):nk:=⟨s.m.put (mQ k a),s.w⟩
def SW(m:gm)(x:cO):cO:={x with a:=hA m x.a (-1),b:=hA m x.b (-1),args:=x.args.map λa=>hA m a (-1)}
def jo(m:gm)(x:cO):cO:={x with a:=hA m x.a x.dst,b:=hA m x.b x.dst,args:=x.args.map λa=>hA m a (-1)}
def pa(s:nk)(x:cO):Int :=
 if mi s.w (lN (SW s.m x))<0 then mi s.w (lN (jo s.m x)) else mi s.w (lN (SW s.m x))
def jq(s:nk)(x:cO):cO :=
 if x.op=2\/x.op=1 then jo s.m x
 else if x.op=27\/x.op=28\/x.op=29 then jo s.m x
 else if x.op=30 then jo s.m x
 else if 0<=pa s x then ow 2 x.dst ⟨pa s x,0⟩
 else lN (jo s.m x)
def ic(s:nk)(x:cO):nk :=
 if x.op=2\/x.op=1 then(if(jo s.m x).a.ck≠x.dst then FQ (kz s x.dst) x.dst (jo s.m x).a else kz s x.dst)
 else if x.op=27\/x.op=28\/x.op=29 then(if 0<=x.dst then kz ⟨s.m,sf s.w⟩ x.dst else⟨s.m,sf s.w⟩)
 else if x.op=30 then s
 else if 0<=pa s x then(if pa s x≠x.dst then FQ (kz s x.dst) x.dst ⟨pa s x,0⟩ else s)
 else if(lN (jo s.m x)).a.ck≠x.dst/\(lN (jo s.m x)).b.ck≠x.dst then⟨(kz s x.dst).m,(kz s x.dst).w++[(lN (jo s.m x),x.dst)]⟩
 else kz s x.dst
def Dn:nk->List cO->List cO
 | _,[]=>[]
 | s,x::l=>jq s x::Dn (ic s x) l
def pR:nk:=⟨⟨0,0,[]⟩,[]⟩
def Lf(m:gm)(t:kt):kt:={t with a:=hA m t.a (-1),b:=hA m t.b (-1)}
def FR(b:bT):bT:=⟨Dn pR b.ah,Lf (b.ah.foldl ic pR).m b.av⟩
def Il(f:dp):dp:={f with blocks:=f.blocks.map FR}
structure ke(m:gm):Prop where
 bF:m.s=0
 shape:∀r∈m.eN,∃k a,r.2=mQ k a/\b8 k/\a.ok
 OO:(m.eN.map (·.1)).Nodup
 low:∀r∈m.eN,r.1<m.hE
 SX:(m.eN.map mB).Nodup
def ke.empty:ke ⟨0,0,[]⟩:=⟨rfl,(λr h=>jh),aF,(λr h=>jh),aF⟩
def ke.sub{m}(h:ke m){l:List rL}(aC:l.Sublist m.eN):ke {m with eN:=l} :=
 ⟨h.bF,λr aM=>h.shape r (aC.subset aM),(aC.map _).nodup h.OO,λr aM=>h.low r (aC.subset aM),(aC.map _).nodup h.SX⟩
def ke.del{m}(h:ke m)n:ke (m.del n):=by
 unfold gm.del;split
 .exact h.sub (UI _ _)
 .exact h
def ke.drop{m}(h:ke m)n:ke (xf m n):=h.sub List.filter_sublist
def aIR{α β:Type}f(g:α->β)(bf:∀a,g (f a)=g a):∀(l:List α) (i:Nat),(l.modify i f).map g=l.map g:=by
 intro l i;apply kg;intro j;simp[gf,PW];rcases l[j]? with _|a
 .rfl
 .by_cases h:i=j<;>simp[h,bf]
def ag1{α:Type}{f}{l:List α}{i a}(h:a∈l.modify i f):a∈l\/∃b∈l,a=f b:=by
 have⟨j,aA⟩:=aaY h;rw[PW] at aA;rcases ao:l[j]? with _|b
 .rw[ao] at aA;cases aA
 .rw[ao] at aA;have I:=bQ ao;by_cases e:i=j
  .simp[e] at aA;exact .inr ⟨b,I,aA.symm⟩
  .simp[e] at aA;exact .inl (aA▸I)
def atV{n}:∀{l:List rL}{i:Nat},qe n l i=none->∀r∈l,n≠mB r:=by
 intro l;induction l with
 | nil=>intro i _ r aM;cases aM
 | cons a l d =>
  intro i h r aM;rw[qe] at h;split at h
  .exact jh
  .rcases dI.1 aM with rfl|aM
   .exact h3
   .exact d h r aM
def aIS{n}:∀{l:List rL}{i:Nat}{r:rL},r∈l->n=mB r->(l.map mB).Nodup->∃j,qe n l i=some (i+j,r)/\l[j]?=some r:=by
 intro l;induction l with
 | nil=>intro i r aM;cases aM
 | cons a l h =>
  intro i r aM ak d;rw[gg,UJ] at d;rcases dI.1 aM with rfl|aM
  .exact⟨0,by rw[qe,au ak];rfl,rfl⟩
  .obtain⟨j,J,g⟩:=h aM ak d.2;exact⟨j+1,by rw[qe,ai (λe=>d.1 (by rw[<-e,ak];exact ih.2 ⟨r,aM,rfl⟩)),J];simp[dh,Ut,Mg];omega,g⟩
def ke.put{m}(h:ke m){k a}(aj:b8 k)(aJ:a.ok):ke (m.put (mQ k a)):=by
 unfold gm.put;split
 .rename_i x aa;have⟨_,vW,Im⟩:=JS aa;rw[yF] at vW;refine⟨h.bF,λr aM=>?_,?_,λr aM=>?_,?_⟩
  .rcases ag1 aM with aM|⟨b,I,rfl⟩
   .exact h.shape r aM
   .exact⟨k,a,rfl,aj,aJ⟩
  .show((m.eN.modify x.1 λe=>(e.1,mQ k a)).map (·.1)).Nodup;rw[aIR (λe:rL=>(e.1,mQ k a)) (λe:rL=>e.1) (λ_=>rfl)];exact h.OO
  .rcases ag1 aM with aM|⟨b,I,rfl⟩
   .exact h.low r aM
   .exact h.low b I
  .show((m.eN.modify x.1 λe=>(e.1,mQ k a)).map mB).Nodup;have e:(m.eN.modify x.1 λe=>(e.1,mQ k a)).map mB=m.eN.map mB:=by
    apply kg;intro j;simp only[gf,PW];by_cases aA:x.1=j
    .subst aA;rw[vW];simp only[kB];exact hq some Im
    .exact Ea
   exact e▸h.SX
 .rename_i aa;refine⟨h.bF,λr aM=>?_,?_,λr aM=>?_,?_⟩
  .rcases ha.1 aM with aM|aM
   .exact h.shape r aM
   .simp[gU] at aM;subst aM;exact⟨k,a,rfl,aj,aJ⟩
  .show((m.eN++[(m.hE,mQ k a)]).map _).Nodup;rw[pW,GG];refine⟨h.OO,aF,λx aa y aN e=>?_⟩;obtain⟨r,aM,rfl⟩:=ih.1 aa;simp at aN;have:=h.low r aM;omega
  .show r.1<m.hE+1;rcases ha.1 aM with aM|aM
   .have:=h.low r aM;omega
   .simp[gU] at aM;subst aM;exact dN _
  .show((m.eN++[(m.hE,mQ k a)]).map mB).Nodup;rw[pW,GG];refine⟨h.SX,aF,λx kE y aN e=>?_⟩;obtain⟨r,aM,rfl⟩:=ih.1 kE;simp[gg,oH,gU] at aN;subst aN;exact atV aa r aM e.symm
def aIT{m}(h:ke m){k o}(aH:FO m k=some o):o.ok:=by
 unfold FO at aH;rcases ar:qe k m.eN 0 with _|x
 .rw[ar] at aH;cases aH
 .rw[ar] at aH;have⟨_,ab,_⟩:=JS ar;have⟨k',a,e,_,aJ⟩:=h.shape x.2 (bQ ab);simp only[iW,dh,e,mQ] at aH;subst aH;exact aJ
def Lg{m}(h:ke m){a}(aJ:a.ok)but:(hA m a but).ok:=by
 unfold hA;split
 .split
  .rename_i o aH;split
   .exact aIT h aH
   .exact aJ
  .exact aJ
 .exact aJ
def aIU{m}(h:ke m)z k:m.get (.agg ⟨dX z⟩) k=.tuple #[.agg ⟨dX ((FO m k).getD z)⟩,.bool (FO m k).isSome]:=by
 unfold gm.get FO;rcases ar:qe k m.eN 0 with _|x
 .rfl
 .have⟨_,ab,_⟩:=JS ar;have⟨k',a,e,_,aJ⟩:=h.shape x.2 (bQ ab);simp only[sE,y3,e,mQ,iW,yG,aaS,dX];rfl
def Y3{α:Type}:∀{l:List α},l.Nodup->∀{i j:Nat}{x:α},l[i]?=some x->l[j]?=some x->i=j
 | [],_,i,j,x,h,_=>p2
 | a::l,h,0,0,x,_,_=>rfl
 | a::l,h,0,j+1,x,J,d=>by
  simp[kC,dh,pg] at J d;rw[J] at h;exact absurd (bQ d) (UJ.1 h).1
 | a::l,h,i+1,0,x,J,d=>by
  simp[kC,dh,pg] at J d;rw[d] at h;exact absurd (bQ J) (UJ.1 h).1
 | a::l,h,i+1,j+1,x,J,d=>by
  simp[pg] at J d;rw[Y3 (UJ.1 h).2 J d]
def Y4 x:(lN x).args=x.args:=Mm
def atW x:(lN x).op=x.op:=Mm
def ag2 x:(lN x).dst=x.dst:=Mm
def SY(f f':dp):Prop:=f'=Il f
end
section
def tY(ae:List Int)(k:Int):Int:=ae.getD k.toNat 0
def SZ{ae a}(h:0<=a.ck):bq ae a=tY ae a.ck:=by rw[bq,tY,ai U]
def ag3{ae d v k}(aj:0<=k)(h:k≠d):tY (eR ae d v) k=tY ae k:=by
 unfold tY eR;split
 .rw[oG,oG,fl,ai U]
 .rfl
def ag4{ae d v}(h0:0<=d)(J:d.toNat<ae.length):tY (eR ae d v) d=v:=by
 rw[tY,eR,au h0,oG,fl,au rfl,au J];rfl
def Lh{ae d v a}(h:a.ck≠d):bq (eR ae d v) a=bq ae a:=by
 by_cases aM:0<=a.ck
 .rw[SZ aM,SZ aM,ag3 aM h]
 .unfold bq;rw[au U,au U]
def aIV{ae d}:eR ae d (tY ae d)=ae:=by
 unfold eR tY;split
 .apply kg;intro i;rw[fl];split
  .rename_i e;subst e;split
   .rename_i h;rw[oG,ey h];rfl
   .rename_i h;rw[wh U]
  .rfl
 .rfl
def Li(s:c9)(aI:Int)(n:Nat)(gA:Bool):Option Int :=
 if my s aI n then some (q8 (zz s.data (aI-65536).toNat n) n gA)
 else if oL s aI n then some (q8 (zz s.stack (aI-(134217728-(s.stack.length:Int))).toNat n) n gA)
 else none
def atX{s t}(J:t.data=s.data)(h:t.stack=s.stack)aI n a:Li t aI n a=Li s aI n a:=by
 have g:my t aI n=my s aI n:=by unfold my;rw[J]
 have j:oL t aI n=oL s aI n:=by unfold oL;rw[h]
 unfold Li;by_cases d:my s aI n
 .rw[au d,au (g▸d),J]
 .rw[ai d,ai (g▸d)];by_cases e:oL s aI n
  .rw[au e,au (j▸e),h]
  .rw[ai e,ai (j▸e)]
def atY{s aI n gA}(h:(jA s aI n gA).2.bb=0):Li s aI n gA=some (jA s aI n gA).1/\(jA s aI n gA).2=eE s ⟨2,aI,0⟩:=by
 unfold jA at h|-;unfold Li;split
 .exact⟨rfl,rfl⟩
 .rename_i J;rw[ai J] at h;split
  .exact⟨rfl,rfl⟩
  .rename_i ab;rw[ai ab] at h;exact absurd h (UQ _ bo)
def Y5 s:(aX s).data=s.data/\(aX s).stack=s.stack:=by
 unfold aX;split
 .split<;>exact⟨rfl,rfl⟩
 .exact⟨rfl,rfl⟩
def xg(p:fX)(aI:List Int)(s:c9)(ae:List Int)(x:cO)(v:Int):Prop :=
 (3<=x.op/\x.op<=25/\v=r6 p aI ae x)\/(x.op=26/\Li s (i64 (bq ae x.a+x.off)) x.size.toNat x.signed=some v)
structure tZ(ae:List Int)(x y:cO):Prop where
 op:y.op=x.op
 size:y.size=x.size
 signed:y.signed=x.signed
 ref:y.ref=x.ref
 off:y.off=x.off
 a:e6 x.op=false->bq ae y.a=bq ae x.a
 two:e6 x.op=true->h7 x.op (bq ae y.a) (bq ae y.b)=h7 x.op (bq ae x.a) (bq ae x.b)
def tZ.trans{ae x y z}(J:tZ ae x y)(ab:tZ ae y z):tZ ae x z :=
 ⟨ab.op.trans J.op,ab.size.trans J.size,ab.signed.trans J.signed,ab.ref.trans J.ref,ab.off.trans J.off,λh=>(ab.a (by rwa[J.op])).trans (J.a h),λh=>by have:=ab.two (by rwa[J.op]);rw[J.op] at this;exact this.trans (J.two h)⟩
def tZ.symm{ae x y}(h:tZ ae x y):tZ ae y x :=
 ⟨h.op.symm,h.size.symm,h.signed.symm,h.ref.symm,h.off.symm,λaw=>(h.a (by rwa[<-h.op])).symm,λaw=>h.op▸(h.two (by rwa[<-h.op])).symm⟩
def tZ.val{p aI ae x y}(h:tZ ae x y):r6 p aI ae y=r6 p aI ae x:=by
 unfold r6;rw[h.op,h.size,h.signed,h.ref,h.off];by_cases fD:e6 x.op=true
 .rw[au fD,au fD,h.two fD,ai (show¬(x.op=1\/x.op=2) by have:=rC.1 fD;omega),ai (show¬(x.op=1\/x.op=2) by have:=rC.1 fD;omega)]
 .rw[h.a (by simpa using fD),ai fD,ai fD]
def tZ.has{p aI s ae x y v}(h:tZ ae x y)(aE:xg p aI s ae x v):xg p aI s ae y v:=by
 unfold xg at aE|-;rw[h.op,h.val];rcases aE with J|⟨J,ab⟩
 .exact .inl J
 .refine .inr ⟨J,?_⟩;rwa[h.off,h.size,h.signed,h.a (by unfold e6;simp;omega)]
def aIW a b:NZ a b=NZ b a:=by unfold NZ;rw[BitVec.and_comm]
def aIX a b:R3 a b=R3 b a:=by unfold R3;rw[BitVec.or_comm]
def aIY a b:R4 a b=R4 b a:=by unfold R4;rw[BitVec.xor_comm]
def aIZ{op a b}(h:op=3\/op=5\/op=10\/op=11\/op=12\/op=16\/op=17):h7 op a b=h7 op b a:=by
 unfold h7;rcases h with e|e|e|e|e|e|e;all_goals subst e
 .simp[Int.add_comm]
 .simp[Int.mul_comm]
 .simp[aIW]
 .simp[aIX]
 .simp[aIY]
 .have h:(a==b)=(b==a):=BEq.comm;simp[nc,h]
 .have h:(a==b)=(b==a):=BEq.comm;simp[nc,h]
def ag5 ae x:tZ ae x (lN x):=by
 unfold lN;split
 .rename_i h;unfold SU at h;simp[cA,ed] at h;exact⟨rfl,rfl,rfl,rfl,rfl,λab=>by exfalso;unfold e6 at ab;simp at ab;omega,λ_=>aIZ h.1⟩
 .exact⟨rfl,rfl,rfl,rfl,rfl,λ_=>rfl,λ_=>rfl⟩
def aI0{ae x y}(h:Ik x y=true):tZ ae x y:=by
 unfold Ik at h;simp[cA,ed] at h;have⟨⟨⟨⟨⟨⟨⟨J,ab,aK⟩,br,cz⟩,gx⟩,j7⟩,_⟩,w9⟩,Bt⟩:=h;have C5:x.a=y.a:=by
  cases aa:x.a;cases aN:y.a;rw[aa,aN] at ab aK;simp_all
 have lY:x.b=y.b:=by
  cases aa:x.b;cases aN:y.b;rw[aa,aN] at br cz;simp_all
 exact⟨J.symm,gx.symm,j7.symm,w9.symm,Bt.symm,λ_=>by rw[C5],λ_=>by rw[C5,lY]⟩
structure mj(p:fX)(c:nk)(aI:List Int)(s:c9)(ae:List Int):Prop where
 OP:∀r∈c.m.eN,∀k a,r.2=mQ k a->0<=k/\bq ae a=tY ae k
 vX:∀k∈c.w,0<=k.2/\xg p aI s ae k.1 (tY ae k.2)
def mj.zero p aI s ae:mj p pR aI s ae:=⟨(λr aM=>by cases aM),(λk aj=>Jy)⟩
def atZ{m}(h:ke m){k a}(aH:FO m k=some a):∃r∈m.eN,r.2=mQ k a:=by
 unfold FO at aH;rcases ar:qe k m.eN 0 with _|x
 .rw[ar] at aH;cases aH
 .rw[ar] at aH;have⟨_,ab,aK⟩:=JS ar;have hm:=bQ ab;have⟨k',b6,e,_,_⟩:=h.shape x.2 hm;simp only[iW,dh,e,mQ] at aH;subst aH;refine⟨x.2,hm,?_⟩;rw[e];have:mB x.2=k':=by rw[mB,e];rfl
  rw[aK,this];rfl
def Ac{p c aI s ae}(h:mj p c aI s ae)(ok:ke c.m)a but:bq ae (hA c.m a but)=bq ae a:=by
 unfold hA;split
 .rename_i h0;split
  .rename_i o aH;split
   .have⟨r,aM,e⟩:=atZ ok aH;rw[(h.OP r aM _ _ e).2,SZ h0]
   .rfl
  .rfl
 .rfl
def aI1{m}(h:ke m){n}{r:rL}(aM:r∈(m.del n).eN):r∈m.eN/\mB r≠n:=by
 unfold gm.del at aM;split at aM
 .rename_i x aa;have⟨_,ab,aK⟩:=JS aa;rw[yF] at ab;have aM:r∈m.eN.eraseIdx x.1:=aM;refine⟨(UI _ _).subset aM,λe=>?_⟩;rw[ajG] at aM;have⟨j,bM,aA⟩:=aM;have g1:(m.eN.map mB)[j]?=some n:=by rw[gf,aA];simp[e]
  have g2:(m.eN.map mB)[x.1]?=some n:=by rw[gf,ab];simp[<-aK]
  exact bM (Y3 h.SX g1 g2)
 .rename_i aa;exact⟨aM,λe=>atV aa r aM e.symm⟩
def at0{m:gm}{row}{r:rL}(aM:r∈(m.put row).eN):r∈m.eN\/r.2=row:=by
 unfold gm.put at aM;split at aM
 .rcases ag1 aM with h|⟨b,_,rfl⟩
  .exact .inl h
  .exact .inr rfl
 .rcases ha.1 aM with h|h
  .exact .inl h
  .rw[gU] at h;subst h;exact .inr rfl
def at1{c}(h:ke c.m){d}{r:rL}(aM:r∈(kz c d).m.eN):r∈c.m.eN/\∀k a,r.2=mQ k a->k≠d/\a.ck≠d:=by
 have⟨J,ab⟩:=B1.1 aM;have⟨aK,br⟩:=aI1 h J;refine⟨aK,λk a e=>⟨λa1=>br (by unfold mB;rwa[e]),λa1=>?_⟩⟩;have ab:=xr ab;rw[e] at ab;exact ab a1
def at2{k j a b}(h:mQ k a=mQ j b):k=j/\a=b:=by
 unfold mQ at h;simp[IX,Mg] at h;refine⟨h.1,?_⟩;cases a;cases b;simp_all
section
variable{p:fX}{c:nk}{aI:List Int}{s t:c9}{ae:List Int}
def Y6{Ky x v}(aJ:bq Ky x.a=bq ae x.a)(I:bq Ky x.b=bq ae x.b)(hm:(t.data=s.data/\t.stack=s.stack)\/x.op≠26)(h:xg p aI s ae x v):xg p aI t Ky x v:=by
 unfold xg at h|-;have e:r6 p aI Ky x=r6 p aI ae x:=by unfold r6;rw[aJ,I]
 rw[e,aJ];rcases h with h|⟨J,ab⟩
 .exact .inl h
 .rcases hm with⟨m1,m2⟩|m
  .exact .inr ⟨J,by rwa[atX m1 m2]⟩
  .exact absurd J m
def mj.mem(h:mj p c aI s ae)(hm:(t.data=s.data/\t.stack=s.stack)\/∀k∈c.w,k.1.op≠26):mj p c aI t ae :=
 ⟨h.OP,λk aj=>⟨(h.vX k aj).1,Y6 rfl rfl (hm.imp id λf=>f k aj) (h.vX k aj).2⟩⟩
def mj.yu(h:mj p c aI s ae)(ok:ke c.m)(hm:(t.data=s.data/\t.stack=s.stack)\/∀k∈c.w,k.1.op≠26)d v:mj p (kz c d) aI t (eR ae d v):=by
 refine⟨λr aM k a e=>?_,λk aj=>?_⟩
 .have⟨J,ab⟩:=at1 ok aM;have⟨aK,br⟩:=ab k a e;have⟨cz,gx⟩:=h.OP r J k a e;exact⟨cz,by rwa[Lh br,ag3 cz aK]⟩
 .have⟨J,ab⟩:=B1.1 aj;unfold SV at ab;simp[cA,ed] at ab;have⟨⟨aK,br⟩,cz⟩:=ab;have⟨gx,j7⟩:=h.vX k J;exact⟨gx,by rw[ag3 gx aK];exact Y6 (Lh br) (Lh cz) (hm.imp id λf=>f k J) j7⟩
def mj.put(h:mj p c aI s ae){d a}(h0:0<=d)(aE:bq ae a=tY ae d):mj p (FQ c d a) aI s ae:=by
 refine⟨λr aM k b e=>?_,h.vX⟩;rcases at0 aM with J|J
 .exact h.OP r J k b e
 .have⟨ba,a1⟩:=at2 (J.symm.trans e);subst ba;subst a1;exact⟨h0,aE⟩
def mj.push(h:mj p c aI s ae){d x}(h0:0<=d)(aE:xg p aI s ae x (tY ae d)):mj p ⟨c.m,c.w++[(x,d)]⟩ aI s ae:=by
 refine⟨h.OP,λk aj=>?_⟩;rcases ha.1 aj with J|J
 .exact h.vX k J
 .rw[gU] at J;subst J;exact⟨h0,aE⟩
def mj.forget(h:mj p c aI s ae):mj p ⟨c.m,sf c.w⟩ aI t ae:=by
 refine⟨h.OP,λk aj=>?_⟩;have⟨J,ab⟩:=B1.1 aj;have ab:=xr ab;exact⟨(h.vX k J).1,Y6 rfl rfl (.inr ab) (h.vX k J).2⟩
def aI2{w}:∀k∈sf w,k.1.op≠26:=λ_ aj=>xr (B1.1 aj).2
def Y7{x}:∀{w:List FP},0<=mi w x->∃k∈w,Ik k.1 x=true/\mi w x=k.2
 | [],h=>by unfold mi at h;omega
 | k::w,h=>by
  unfold mi at h|-;split at h
  .rename_i e;exact au e▸⟨k,aF,e,rfl⟩
  .rename_i e;rw[ai e];have⟨j,J,a⟩:=Y7 h;exact⟨j,QG,a⟩
def at3{x y}(J:y.op=x.op)(ab:y.size=x.size)(j:y.signed=x.signed)(g:y.ref=x.ref)(e:y.off=x.off)(d:bq ae y.a=bq ae x.a)(I:bq ae y.b=bq ae x.b):tZ ae x y:=⟨J,ab,j,g,e,λ_=>d,λ_=>by rw[d,I]⟩
def at4(h:mj p c aI s ae)(ok:ke c.m)x:tZ ae x (jo c.m x):=at3 rfl rfl rfl rfl rfl (Ac h ok _ _) (Ac h ok _ _)
def aI3(h:mj p c aI s ae)(ok:ke c.m)x:tZ ae x (SW c.m x):=at3 rfl rfl rfl rfl rfl (Ac h ok _ _) (Ac h ok _ _)
def at5(h:mj p c aI s ae){x y}(ao:tZ ae x y)(ar:0<=mi c.w y):xg p aI s ae x (tY ae (mi c.w y)):=by
 have⟨k,J,ab,aK⟩:=Y7 ar;exact aK▸((aI0 ab).trans ao.symm).has (h.vX k J).2
def aI4(h:mj p c aI s ae)(ok:ke c.m){x}(ar:0<=pa c x):xg p aI s ae x (tY ae (pa c x)):=by
 unfold pa at ar|-;split at ar
 .rename_i e;exact au e▸at5 h ((at4 h ok x).trans (ag5 _ _)) ar
 .rename_i e;exact ai e▸at5 h ((aI3 h ok x).trans (ag5 _ _)) ar
end
section
variable{p q:fX}{cl cl':c9->List Int->cO->Int×c9}{aI:List Int}{s:c9}{ae:List Int}{x:cO}
def at6(dC:1<=x.op/\x.op<=30)(aB:¬(x.op=27\/x.op=28\/x.op=29))(h0:(bX p cl aI s ae x).1.bb=0):(bX p cl aI s ae x).1.data=s.data/\(bX p cl aI s ae x).1.stack=s.stack:=by
 have aC:=Y5 s;refine Kt (Q:=λz=>z.1.bb=0->z.1.data=s.data/\z.1.stack=s.stack) (λh aw=>absurd aw h) (λ_ _ _=>aC) (λ_ _ aw=>?_) (λ_ _ _=>aC) (λ_ _ _=>aC) (λ_ _ _=>aC) (λ_ _ _=>aC) (λ_ _ aw=>?_) (λ_ h _=>U) (λ_ _ aw=>?_) (λ_ J ab d a _=>?_) h0
 .dsimp only at aw|-;split at aw
  .rename_i e;rwa[au e]
  .exact absurd aw (UQ _ bo)
 .dsimp only at aw|-;rwa[(atY aw).2]
 .dsimp only at aw|-;split at aw
  .exact absurd aw (UQ _ bo)
  .rename_i e;rwa[ai e]
 .exfalso;have ab:¬(3<=x.op/\x.op<=21):=λh=>by rw[rC.2 h] at ab;cases ab
  omega
def at7(d:x.op=26)(h0:(bX p cl aI s ae x).1.bb=0):(aX s).bb=0/\∃v,Li s (i64 (bq ae x.a+x.off)) x.size.toNat x.signed=some v/\bX p cl aI s ae x=(eE (aX s) ⟨2,i64 (bq ae x.a+x.off),0⟩,eR ae x.dst v):=by
 have ab:¬e6 x.op=true:=λh=>Ji;unfold bX at h0|-;by_cases aC:(aX s).bb=0
 .rw[au aC] at h0|-;refine⟨aC,?_⟩;rw[ai U,ai ab,ai U,ai U,ai U,ai U,au d] at h0|-;have⟨g1,g2⟩:=atY h0;refine⟨_,?_,by rw[g2]⟩;rwa[<-atX (Y5 s).1 (Y5 s).2]
 .rw[ai aC] at h0;exact MA
def aI5(dC:3<=x.op/\x.op<=26)(h0:(bX p cl aI s ae x).1.bb=0):∃v,(bX p cl aI s ae x).2=eR ae x.dst v/\xg p aI s ae x v:=by
 by_cases d:x.op=26
 .have⟨_,v,J,a⟩:=at7 d h0;exact⟨v,by rw[a],.inr ⟨d,J⟩⟩
 .have⟨_,a,_⟩:=NX (CU.2 U) h0;exact⟨_,by rw[a],.inl ⟨dC.1,U,rfl⟩⟩
def aua{u v}(J:xg p aI s ae x u)(g:xg p aI s ae x v):u=v:=by
 rcases J with⟨_,d,j⟩|⟨k,d⟩<;>rcases g with⟨_,a,e⟩|⟨b1,a⟩
 .rw[j,e]
 .exact U
 .exact U
 .rw[d] at a;injection a
def aI6(dC:3<=x.op/\x.op<=26)(h0:(bX p cl aI s ae x).1.bb=0)l{z}(y:0<=z)(aE:xg p aI s ae x (tY ae z)):
 ∃j,bX q cl' aI (fg s l) ae (ow 2 x.dst ⟨z,0⟩)=(fg (bX p cl aI s ae x).1 j,(bX p cl aI s ae x).2)/\∀g,fS (lX g x (ow 2 x.dst ⟨z,0⟩)) s.bU (bX p cl aI s ae x).1.bU l j:=by
 have m:bq ae (⟨z,0⟩:ho)=tY ae z:=SZ y;by_cases d:x.op=26
 .have⟨J,v,u,w⟩:=at7 d h0;rw[w];refine⟨l,?_,λg=>?_⟩
  .rw[bX,NV,au (show(fg (aX s) l).bb=0 from J),au (show(ow 2 x.dst ⟨z,0⟩).op=1\/(ow 2 x.dst ⟨z,0⟩).op=2 from .inr rfl)];show(_,eR ae x.dst (bq ae ⟨z,0⟩))=_;rw[m,aua aE (.inr ⟨d,u⟩)];rfl
  .rw[lX,au (.inl d)];refine fS.one (l:=⟨2,i64 (bq ae x.a+x.off),0⟩) ?_;rw[ai (by show¬decide ((2:Int)=x.op)=true;rw[d];decide)];show fS oA (_::s.bU) (_::(aX s).bU) l l;rw[Fe];exact Cc
 .refine V0 (CU.2 U) h0 l (.inr rfl) rfl ?_;show bq ae ⟨z,0⟩=_;rw[m];rcases aE with⟨_,_,h⟩|⟨h,_⟩
  .exact h
  .exact absurd h d
def aI7{x'}(d:e6 x.op=true)(h0:(bX p cl aI s ae x).1.bb=0)l(u:x'.op=x.op)(w:x'.dst=x.dst)(aj:h7 x.op (bq ae x'.a) (bq ae x'.b)=h7 x.op (bq ae x.a) (bq ae x.b)):
 ∃j,bX q cl' aI (fg s l) ae x'=(fg (bX p cl aI s ae x).1 j,(bX p cl aI s ae x).2)/\∀g,fS (lX g x x') s.bU (bX p cl aI s ae x).1.bU l j:=by
 have dC:=rC.1 d;have⟨J,v,m⟩:=NX (CU.2 U) h0;rw[v];refine⟨l,?_,λg=>?_⟩
 .rw[bX,NV,au (show(fg (aX s) l).bb=0 from J),u,w,ai U,au d,aj,au (m d),(by rw[r6,ai U,au d]:r6 p aI ae x=(h7 x.op (bq ae x.a) (bq ae x.b)).1)]
 .rw[lX,ai U,ai U,ai U];show fS oA s.bU (aX s).bU l l;rw[Fe];exact Cc
end
def aub{p c aI s ae}(h:mj p c aI s ae)(ok:ke c.m)d:∀n,iS ae (d.map λa=>hA c.m a (-1)) n=iS ae d n
 | 0=>rfl
 | n+1=>by
  rw[iS,iS,aub h ok d n];congr 1;rw[oG,oG,gf];rcases d[n]? with _|a
  .rfl
  .exact Ac h ok a _
def aI8{p q}(bf:q.globals=p.globals){f c x}(bA:rb p f x)(ok:ke c.m):X3 p q f.ae.toNat x (jq c x) (mj p c) (mj p (ic c x)):=by
 have dC:=bA.op;have u:=bA.right;refine⟨λaB=>?_,λaB cl cl' aI s ae E g aM h0=>?_⟩
 .have A:jq c x=jo c.m x:=by unfold jq;rw[ai U,au U]
  have B:ic c x=if 0<=x.dst then kz ⟨c.m,sf c.w⟩ x.dst else⟨c.m,sf c.w⟩:=by unfold ic;rw[ai U,au U]
  rw[A,B];refine⟨rfl,rfl,rfl,by simp[jo],λaI s ae g aM=>⟨Ac g ok _ _,aub g ok _ _,λZ v _=>?_⟩⟩;split
  .exact(g.forget (t:=s)).yu ok (.inr aI2) _ _
  .rename_i V;have:eR ae x.dst v=ae:=by unfold eR;rw[ai V]
   rw[this];exact g.forget
 .have D:=λa but=>Ac g ok a but;by_cases C:x.op=2\/x.op=1
  .have A:jq c x=jo c.m x:=by unfold jq;rw[au C]
   have B:ic c x=if(jo c.m x).a.ck≠x.dst then FQ (kz c x.dst) x.dst (jo c.m x).a else kz c x.dst:=by unfold ic;rw[au C]
   obtain⟨z,m1,m2⟩:=R1 (x':=jo c.m x) (cl:=cl) (cl':=cl') bf aB dC E rfl rfl rfl rfl rfl rfl (D _ _) (D _ _) h0;rw[A,B];refine⟨z,m1,m2,?_⟩;obtain⟨_,X,_⟩:=NX (CU.2 U) h0;have H:0<=x.dst:=by rw[X7 U] at u;exact xr u
   have L:x.dst.toNat<ae.length:=amq;have aE:r6 p aI ae x=bq ae x.a:=by unfold r6;rw[au U]
   rw[X];have aj:=g.yu (t:=aX s) ok (.inl (Y5 s)) x.dst (r6 p aI ae x);split
   .rename_i G;refine aj.put H ?_;rw[ag4 H L,Lh G,aE];exact D _ _
   .exact aj
  by_cases T:x.op=27
  .have A:jq c x=jo c.m x:=by unfold jq;rw[ai C,au U]
   have V:x.dst=-1:=by
    unfold k0 at u;rw[ai U,au T] at u;simp only[cA,uq] at u;exact u.1
   have B:ic c x=⟨c.m,sf c.w⟩:=by unfold ic;rw[ai C,au U,ai U]
   obtain⟨z,m1,m2⟩:=R1 (x':=jo c.m x) (cl:=cl) (cl':=cl') bf aB dC E rfl rfl rfl rfl rfl rfl (D _ _) (D _ _) h0;rw[A,B];refine⟨z,m1,m2,?_⟩;have ab:(bX p cl aI s ae x).2=ae:=by
    unfold bX;split
    .have O:e6 27=false:=rfl;simp only[nN,T,O,jE,Int.reduceEq,or_self]
    .rfl
   rw[ab];exact g.forget
  by_cases P:x.op=30
  .have A:jq c x=jo c.m x:=by unfold jq;rw[ai C,ai U,au P]
   have B:ic c x=c:=by unfold ic;rw[ai C,ai U,au P]
   obtain⟨z,m1,m2⟩:=R1 (x':=jo c.m x) (cl:=cl) (cl':=cl') bf aB dC E rfl rfl rfl rfl rfl rfl (D _ _) (D _ _) h0;rw[A,B];refine⟨z,m1,m2,?_⟩;have ab:(bX p cl aI s ae x).2=ae:=by
    unfold bX;split
    .have O:e6 30=false:=rfl;simp only[nN,P,O,jE,Int.reduceEq,or_self]
    .rfl
   rw[ab];exact g.mem (.inl (at6 dC U h0))
  have K:3<=x.op/\x.op<=26:=U;have H:0<=x.dst:=by
   unfold k0 at u;rw[ai (show¬x.op=27 by omega)] at u;repeat' split at u
   all_goals first
    | omega
    | (simp only[cA,ed] at u;first|exact u|exact u.1|exact u.1.1)
  have L:x.dst.toNat<ae.length:=amq;have M:=at6 dC U h0;obtain⟨v,R,Q⟩:=aI5 K h0;by_cases F:0<=pa c x
  .have A:jq c x=ow 2 x.dst ⟨pa c x,0⟩:=by unfold jq;rw[ai C,ai U,ai U,au F]
   have B:ic c x=if pa c x≠x.dst then FQ (kz c x.dst) x.dst ⟨pa c x,0⟩ else c:=by unfold ic;rw[ai C,ai U,ai U,au F]
   have ar:=aI4 g ok F;obtain⟨z,m1,m2⟩:=aI6 (q:=q) (cl:=cl) (cl':=cl') K h0 E F ar;rw[A,B];refine⟨z,m1,m2,?_⟩;have ev:=aua Q ar;rw[R];split
   .rename_i G;refine(g.yu ok (.inl M) x.dst v).put H ?_;rw[Lh G,ag4 H L,ev];exact SZ F
   .rename_i G;have:pa c x=x.dst:=U;rw[ev,this,aIV];exact g.mem (.inl M)
  .have A:jq c x=lN (jo c.m x):=by unfold jq;rw[ai C,ai U,ai U,ai F]
   have B:ic c x=if(lN (jo c.m x)).a.ck≠x.dst/\(lN (jo c.m x)).b.ck≠x.dst then⟨(kz c x.dst).m,(kz c x.dst).w++[(lN (jo c.m x),x.dst)]⟩ else kz c x.dst:=by unfold ic;rw[ai C,ai U,ai U,ai F]
   have ao:=(at4 g ok x).trans (ag5 ae (jo c.m x));have Y:∃z,bX q cl' aI (fg s E) ae (lN (jo c.m x))=(fg (bX p cl aI s ae x).1 z,(bX p cl aI s ae x).2)/\∀W,fS (lX W x (lN (jo c.m x))) s.bU (bX p cl aI s ae x).1.bU E z:=by
    by_cases ab:e6 x.op=true
    .exact aI7 ab h0 E ao.op Mm (ao.two ab)
    .have aS:lN (jo c.m x)=jo c.m x:=by
      unfold lN;rw[ai];intro h;unfold SU at h;simp only[cA,ed] at h;have J:x.op=3\/x.op=5\/x.op=10\/x.op=11\/x.op=12\/x.op=16\/x.op=17:=h.1;exact ab (rC.2 U)
     rw[aS];exact R1 bf aB dC E rfl rfl rfl rfl rfl rfl (D _ _) (D _ _) h0
   obtain⟨z,m1,m2⟩:=Y;rw[A,B];refine⟨z,m1,m2,?_⟩;rw[R];have aj:=g.yu ok (.inl M) x.dst v;split
   .rename_i G;refine aj.push H ?_;rw[ag4 H L];exact Y6 (Lh G.1) (Lh G.2) (.inl M) (ao.has Q)
   .exact aj
structure l1(ae:Int)(c:nk):Prop where
 m:ke c.m
 row:∀r∈c.m.eN,∀k a,r.2=mQ k a->mg ae a
 w:∀k∈c.w,b8 k.2/\-1<=k.2/\k.2<ae
def l1.zero ae:l1 ae pR:=⟨.empty,(λr aM=>by cases aM),(λk aj=>Jy)⟩
section
variable{ae:Int}{c:nk}
def l1.yu(h:l1 ae c)d:l1 ae (kz c d):=⟨(h.m.del d).drop d,λr aM=>h.row r (at1 h.m aM).1,λk aj=>h.w k (B1.1 aj).1⟩
def l1.mem(h:l1 ae c):l1 ae ⟨c.m,sf c.w⟩:=⟨h.m,h.row,λk aj=>h.w k (B1.1 aj).1⟩
def l1.put(h:l1 ae c){d a}(aq:b8 d)(aJ:a.ok)(aj:mg ae a):l1 ae (FQ c d a):=by
 refine⟨h.m.put aq aJ,λr aM k b e=>?_,h.w⟩;rcases at0 aM with J|J
 .exact h.row r J k b e
 .have⟨ba,a1⟩:=at2 (J.symm.trans e);subst a1;exact aj
def S0(h:l1 ae c){a}(aJ:mg ae a)but:mg ae (hA c.m a but):=by
 unfold hA;split
 .split
  .rename_i o aH;split
   .have⟨r,aM,e⟩:=atZ h.m aH;exact h.row r aM _ _ e
   .exact aJ
  .exact aJ
 .exact aJ
def aI9{x}(a:0<=pa c x):∃k∈c.w,pa c x=k.2:=by
 unfold pa at a|-;split at a
 .rename_i e;rw[au e];have⟨k,J,_,d⟩:=Y7 a;exact⟨k,J,d⟩
 .rename_i e;rw[ai e];have⟨k,J,_,d⟩:=Y7 a;exact⟨k,J,d⟩
def l1.found(h:l1 ae c){x}(ar:0<=pa c x):(⟨pa c x,0⟩:ho).ok/\mg ae ⟨pa c x,0⟩:=by
 have⟨k,J,ab⟩:=aI9 ar;have⟨g1,g2,g3⟩:=h.w k J;exact ab▸⟨⟨g1,wv⟩,g2,g3⟩
def l1.step{p f x}(h:l1 f.ae c)(aa:x.ok)(bA:rb p f x):l1 f.ae (ic c x):=by
 have aq:=bA.dst;unfold ic;split
 .rename_i J;have aJ:mg f.ae x.a:=bA.reads _ (by
   rw[eI,ai U,ai U,ai (λh=>by rcases h with h|h;(have:=rC.1 h;omega);omega),ai U];simp)
  split
  .exact(h.yu _).put aa.dst (Lg h.m aa.a _) (S0 h aJ _)
  .exact h.yu _
 .split
  .split
   .exact h.mem.yu _
   .exact h.mem
  .split
   .exact h
   .split
    .rename_i ar;have⟨g1,g2⟩:=h.found ar;split
     .exact(h.yu _).put aa.dst g1 g2
     .exact h
    .split
     .refine⟨(h.yu _).m,(h.yu _).row,λk aj=>?_⟩;rcases ha.1 aj with J|J
      .exact(h.yu _).w k J
      .rw[gU] at J;subst J;exact⟨aa.dst,aq.1,aq.2⟩
     .exact h.yu _
end
def aJa{r x y}(aH:y.op=x.op)(aJ:mg r x.a->mg r y.a)(I:mg r x.b->mg r y.b)(ao:(∀a∈x.args,mg r a)->∀a∈y.args,mg r a)(h:∀a∈eI x,mg r a):∀a∈eI y,mg r a:=by
 unfold eI at h|-;rw[aH];by_cases aW:x.op=28
 .rw[au aW] at h|-;exact ao h
 rw[ai aW] at h|-;by_cases aT:x.op=29
 .rw[au aT] at h|-;intro a hm;rcases dI.1 hm with e|e
  .exact e▸aJ (h _ aF)
  .exact ao (λb I=>h b (by simp[I])) a e
 rw[ai aT] at h|-;by_cases bn:e6 x.op=true\/x.op=27
 .rw[au bn] at h|-;intro a hm;simp[dI,jP,j6] at hm;rcases hm with e|e
  .exact e▸aJ (h _ aF)
  .exact e▸I (h _ aF)
 rw[ai bn] at h|-;by_cases e3:23<=x.op/\x.op<=25
 .rw[au e3];intro a hm;cases hm
 rw[ai e3] at h|-;intro a hm;rw[gU] at hm;exact hm▸aJ (h _ aF)
def aJb{r x}(h:∀a∈eI x,mg r a):∀a∈eI (lN x),mg r a:=by
 unfold lN;split
 .rename_i aS;unfold SU at aS;simp[cA,ed] at aS;unfold eI at h|-;dsimp only;rw[ai U,ai U,au (.inl (rC.2 U))] at h|-;intro a hm;simp[dI,jP,j6] at hm;rcases hm with e|e
  .exact e▸h _ aF
  .exact e▸h _ aF
 .exact h
def aJc{p q}(d:Fg p q){f f'}(aC:f'.bZ.length=f.bZ.length)(bf:f'.ae=f.ae){c}(aB:l1 f.ae c){x}(h:rb p f x):rb q f' (jo c.m x) :=
 ⟨h.op,by rw[bf];exact aJa (x:=x) rfl (λaJ=>S0 aB aJ _) (λaJ=>S0 aB aJ _) (λao a aJ=>by
  obtain⟨b,I,rfl⟩:=ih.1 aJ;exact S0 aB (ao b I) _) h.reads,bf▸h.dst,by rw[X6 d aC (x:=x) (x':=jo c.m x) rfl rfl rfl rfl (by simp[jo])];exact h.right⟩
def aJd{p q}(eM:Fg p q){f f'}(aC:f'.bZ.length=f.bZ.length)(bf:f'.ae=f.ae){c}(aB:l1 f.ae c){x}(h:rb p f x):rb q f' (jq c x):=by
 have b5:=aJc eM aC bf aB h;unfold jq;split
 .exact b5
 .split
  .exact b5
  .split
   .exact b5
   .rename_i eb eo px;split
    .rename_i ar;have Dp:0<=x.dst:=by
      have lZ:=h.right;rw[k0,ai (show¬x.op=27 by omega)] at lZ;repeat' split at lZ
      all_goals first
       | omega
       | (simp[cA,ed] at lZ;first|exact lZ|exact lZ.1|exact lZ.1.1)
     exact R5 (.inr rfl) Dp (bf▸h.dst.2) (bf▸(aB.found ar).2)
    .refine⟨by rw[atW];exact b5.op,aJb b5.reads,by rw[ag2];exact b5.dst,?_⟩;exact(X6 ⟨rfl,rfl,λ_=>rfl⟩ rfl (atW _) (ag2 _) Mm Mm (by rw[Y4]):k0 q f' (lN (jo c.m x))=k0 q f' (jo c.m x))▸b5.right
def aJe{c:nk}(hm:ke c.m){x}(h:x.ok):Fy x (jo c.m x):=by
 refine⟨⟨h.op,h.dst,Lg hm h.a _,Lg hm h.b _,h.size,h.ref,h.off,?_,λa aJ=>?_⟩,by simp[jo]⟩
 .show(x.args.map _).length<=_;rw[fI];exact h.n
 .obtain⟨b,I,rfl⟩:=ih.1 aJ;exact Lg hm (h.args b I) _
def aJf{x}(h:x.ok):(lN x).ok:=by
 unfold lN;split
 .exact⟨h.op,h.dst,h.b,h.a,h.size,h.ref,h.off,h.n,h.args⟩
 .exact h
def aJg{ae c}(aB:l1 ae c){x}(h:x.ok):Fy x (jq c x):=by
 have b5:=aJe aB.m h;unfold jq;split
 .exact b5
 .split
  .exact b5
  .split
   .exact b5
   .split
    .rename_i ar;exact⟨St ago h.dst (aB.found ar).1,dG _⟩
    .exact⟨aJf b5.1,by rw[Y4];exact b5.2⟩
section
variable{p q:fX}{f:dp}
def l1.fold:∀(xs:List cO) {c:nk},l1 f.ae c->(∀x∈xs,x.ok/\rb p f x)->l1 f.ae (xs.foldl ic c)
 | [],_,h,_=>h
 | x::xs,_,h,aa=>l1.fold xs (h.step (aa x aF).1 (aa x aF).2) λy aN=>aa y yN
def ag6:∀(xs:List cO) (c:nk),(Dn c xs).length=xs.length
 | [],_=>rfl
 | x::xs,c=>by rw[Dn,e5,e5,ag6 xs]
def ag7:∀{xs:List cO}{c:nk},l1 f.ae c->(∀x∈xs,x.ok/\rb p f x)->∀y∈Dn c xs,∃x∈xs,∃d,l1 f.ae d/\y=jq d x
 | [],_,_,_,y,aN=>JA
 | x::xs,c,h,aa,y,aN=>by
  rw[Dn] at aN;rcases dI.1 aN with e|e
  .exact⟨x,aF,c,h,e⟩
  .have⟨z,a7,d,aq,e⟩:=ag7 (h.step (aa x aF).1 (aa x aF).2) (λz a7=>aa z V2) y e;exact⟨z,V2,d,aq,e⟩
def aud(bf:q.globals=p.globals):∀(xs:List cO) (c:nk),l1 f.ae c->(∀x∈xs,x.ok/\rb p f x)->KF p q f.ae.toNat (mj p c) xs (Dn c xs) (mj p (xs.foldl ic c))
 | [],_,_,_=>.nil
 | x::xs,c,h,aa=>.cons (aI8 bf (aa x aF).2 h.m) (aud bf xs (ic c x) (h.step (aa x aF).1 (aa x aF).2) λy aN=>aa y yN)
def aJh{c}(aB:ke c.m){r t}:afg r t (Lf c.m t) (λae=>∃aI s,mj p c aI s ae) (λ_ _=>True):=by
 refine⟨λh=>⟨h,λae ⟨_,_,aj⟩ _=>Ac aj aB _ _⟩,λh=>⟨h,rfl,λ_ _ _=>trivial⟩,λh ae ⟨_,_,aj⟩ _ d=>⟨ew,.inr ⟨h,rfl,?_⟩⟩,λh ae ⟨_,_,aj⟩ _ d=>⟨ew,.inr ⟨h,rfl,?_⟩⟩⟩
 .show nc t.op (bq ae (hA c.m t.a (-1))) (bq ae (hA c.m t.b (-1)))=true;rwa[Ac aj aB,Ac aj aB]
 .show nc t.op (bq ae (hA c.m t.a (-1))) (bq ae (hA c.m t.b (-1)))=false;rwa[Ac aj aB,Ac aj aB]
def aue{k:Nat}{b'}(h:(Il f).blocks[k]?=some b'):∃b,f.blocks[k]?=some b/\b'=FR b:=by
 have h:(f.blocks.map FR)[k]?=some b':=h;rw[gf] at h;rcases I:f.blocks[k]? with _|b
 .rw[I] at h;cases h
 .rw[I] at h;injection h with h;exact⟨b,rfl,h.symm⟩
def Y8(a:pL p f)(aj:f.ok){b}(I:b∈f.blocks):∀x∈b.ah,x.ok/\rb p f x:=λx aa=>⟨(aj.blocks b I).ah x aa,a.ah b I x aa⟩
def aJi(bf:q.globals=p.globals)(bA:pL p f)(aj:f.ok):afi p q f (Il f):=by
 refine⟨rfl,rfl,fI _,λ_ _=>True,λ_ _=>trivial,λi b b' I d _=>?_⟩;have⟨g,J,ab⟩:=aue d;rw[I] at J;injection J with J;subst J;subst ab;have aa:=Y8 bA aj (bQ I);exact⟨mj p pR,_,λaI s ae _=>.zero p aI s ae,aud bf b.ah pR (.zero _) aa,aJh (l1.fold b.ah (.zero _) aa).m⟩
def aJj(eM:Fg p q)(bA:pL p f)(aj:f.ok):pL q (Il f):=by
 have ak:(Il f).blocks.length=f.blocks.length:=fI _;refine⟨bA.params,bA.hO,ak▸bA.pos,λb' g y aN=>?_,λb' g=>?_⟩
 .obtain⟨b,I,rfl⟩:=ih.1 g;obtain⟨x,aa,d,aq,rfl⟩:=ag7 (.zero _) (Y8 bA aj I) y aN;exact aJd (f:=f) (f':=Il f) eM rfl rfl aq (bA.ah b I x aa)
 .obtain⟨b,I,rfl⟩:=ih.1 g;have aS:=bA.av b I;refine⟨aS.bp,λa aJ=>?_,aS.op,ak▸aS.next⟩;have e:e2 (FR b).av=(e2 b.av).map λa=>hA (b.ah.foldl ic pR).m a (-1):=by
   unfold e2 FR Lf;dsimp only;repeat' split
   all_goals rfl
  rw[e] at aJ;obtain⟨n,h0,rfl⟩:=ih.1 aJ;exact S0 (l1.fold b.ah (.zero _) (Y8 bA aj I)) (aS.reads n h0) _
def aJk(bA:pL p f)(aj:f.ok):H2 f (Il f):=by
 refine⟨rfl,rfl,rfl,rfl,rfl,fI _,λk b' v=>?_⟩;obtain⟨b,I,rfl⟩:=aue v;have u:=bQ I;have g:=aj.blocks b u;have aa:=Y8 bA aj u;have ag:∀y∈(FR b).ah,∃x∈b.ah,Fy x y:=λy aN=>by
  obtain⟨x,kE,d,aq,rfl⟩:=ag7 (.zero _) aa y aN;exact⟨x,kE,aJg aq (aa x kE).1⟩
 have aB:=l1.fold b.ah (.zero _) aa;refine⟨b,I,⟨?_,λy aN=>?_,⟨g.av.bp,g.av.op,Lg aB.m g.av.a _,Lg aB.m g.av.b _,g.av.goto,g.av.dx⟩⟩,ag6 _ _,ag⟩
 .show(Dn pR b.ah).length<=_;rw[ag6];exact g.n
 .have⟨x,_,h⟩:=ag y aN;exact h.1
end
end
section
def Y9 bl:mL bl=gJ bl+bl.length:=by
 induction bl with
 | nil=>rfl
 | cons b l a=>unfold mL gJ at *;simp[e5,gg,nP];omega
structure oE(p:fX):Prop where
 ok:p.ok
 rA:C1 p
 right:gy p=true
 sz:∀f∈p.funcs,f.blocks.length<=100000/\gJ f.blocks<=1000000
def oE.of{p}(e:p.ok)(d:kj p=true)(aM:gy p=true):oE p :=
 ⟨e,aqF d,aM,λf ar=>⟨(XG e d aM f ar).1.len,(XG e d aM f ar).1.size⟩⟩
section
variable{p q:fX}
def oE.Dq(h:oE p){f}(ar:f∈p.funcs):pL p f:=by
 have:=h.right;unfold gy at this;simp only[cA] at this;exact aqT.1 (iB.1 this.2 f ar)
def auf{n}(ak:n<=1000000){a}(h:mg n a):b8 a.ck:=⟨by have:=h.1;omega,by have:=h.2;omega⟩
def oE.K(h:oE p):∀f∈p.funcs,(pC f.ae f.blocks/\Ov f)/\Hw f:=by
 intro f ar;have bA:=h.Dq ar;have⟨fY,hh,CN⟩:=h.rA.f f ar;have⟨HR,z2⟩:=h.sz f ar;have bh:=bA.params;have aC:=bA.hO;refine⟨⟨⟨bA.pos,HR,U,U,bA.gj.gV,z2,λb I x aa=>⟨by have:=(CN b I).2 x aa;omega,(((h.ok.funcs f ar).blocks b I).ah x aa).dst,λa aJ=>auf U ((bA.ah b I x aa).reads a aJ)⟩,λb I a aJ=>auf U ((bA.av b I).reads a aJ)⟩,aFK h.ok h.right f ar⟩,⟨bA.pos,U,U,HR,λb I=>(CN b I).1,λb I x aa=>by have:=(CN b I).2 x aa;omega⟩⟩
def s5.trans{r}(J:s5 p q)(a:s5 q r):s5 p r:=by
 refine⟨a.ok,a.rA,a.right,by rw[a.fA,J.fA],by rw[a.data,J.data],by rw[a.fu,J.fu],by rw[a.len,J.len],bx a.size J.size,λi f f' n y=>?_,λN h e bu d h0=>?_,λN h e j k bu d h0 v u=>a.two N h e j k bu d (J.run N h e bu d h0).1 (J.run N j k bu d v).1 (J.two N h e j k bu d h0 v u)⟩
 .have u:=(cS.1 n).1;have⟨g,bf⟩:=cR q.funcs i (by rwa[J.len]);have⟨m,a2⟩:=J.head i f g n bf;have⟨b1,l⟩:=a.head i g f' bf y;exact⟨by rw[b1,m],by rw[l,a2]⟩
 .have⟨m,a2,a3,a4⟩:=J.run N h e bu d h0;have⟨b1,l,w,z⟩:=a.run N h e bu d m;exact⟨b1,by rw[l,a2],by rw[w,a3],aaX z a4⟩
def aug{R}(h:tM R p q)(bz:oE p)(cZ:C4 p q)(aM:gy q=true)(du:∀f f',f∈p.funcs->R f f'->H2 f f'):s5 p q/\oE q:=by
 have aj:=aF2 h bz.ok bz.rA cZ aM du;refine⟨aj,aj.ok,aj.rA,aM,λf' fb=>?_⟩;have⟨f,ar,bA⟩:=agp h fb;have N1:=du f f' ar bA;have J:=bz.sz f ar;have ab:=N1.asq;rw[Y9,Y9,N1.len] at ab;exact⟨N1.len▸J.1,U⟩
def aJl(h:tM N0 p q)(bz:oE p):s5 p q/\oE q:=by
 have⟨cZ,aG⟩:=aD7 h bz.ok bz.right Je λf ar=>(bz.Dq ar).gj.gV;refine aug h bz cZ aG λf f' ar bA=>?_;have⟨J,ab,aK,br,cz,gx,j7⟩:=aF0 (bz.Dq ar).pos (bz.Dq ar).gj.gV (bz.ok.funcs f ar) bA;exact VP
def aJm(h:tM SY p q)(bz:oE p):s5 p q/\oE q:=by
 have cZ:=h.dB λf f' e=>qH;refine aug h bz ⟨cZ,Je,bz.ok,bz.right,λi f f' ar fb=>?_⟩ (afq h cZ bz.right λf f' ar bA _=>bA▸aJj cZ.afp (bz.Dq ar) (bz.ok.funcs f ar)) λf f' ar bA=>?_
 .have hm:=bQ ar;exact h.rel i f f' ar fb▸aJi cZ.fu (bz.Dq hm) (bz.ok.funcs f hm)
 .exact bA▸aJk (bz.Dq ar) (bz.ok.funcs f ar)
structure Lj(p:fX)(f f':dp):Prop where
 eq:f'={f with blocks:=f'.blocks}
 vs:tX f f'
 right:pL p f'
 len:f'.blocks.length<=f.blocks.length
 size:gJ f'.blocks<=gJ f.blocks
 ah:∀b∈f'.blocks,∀x∈b.ah,x.ok/\x.args.length<=4000
 av:∀b∈f'.blocks,b.av.ok
def aJn(a:Fg p q){f}(h:pL p f):pL q f :=
 ⟨h.params,h.hO,h.pos,λb I x aa=>X8 a rfl rfl (h.ah b I x aa),h.av⟩
def auh:∀{l m:List dp},m.length=l.length->(∀(i:Nat) (f f':dp),l[i]?=some f->m[i]?=some f'->mL f'.blocks<=mL f.blocks)->mh m<=mh l
 | [],[],_,_=>b4 _
 | [],_::_,h,_=>p2
 | _::_,[],h,_=>p2
 | f::l,g::m,h,ag=>by
  have J:=ag 0 f g rfl rfl;have d:=auh lM λi a b e I=>ag (i+1) a b (by simpa using e) (by simpa using I);unfold mh at d|-;simp[gg,nP];omega
def ag8{R}(h:tM R p q)(bz:oE p)(bA:∀f f',f∈p.funcs->R f f'->Lj p f f'):s5 p q/\oE q:=by
 have e7:∀f'∈q.funcs,∃f∈p.funcs,Lj p f f':=λf' fb=>by
  have⟨f,ar,aM⟩:=agp h fb;exact⟨f,ar,bA f f' ar aM⟩
 have cZ:ye p q:=by
  refine⟨h.fu,h.data,h.fA,h.len,λn=>?_⟩;unfold lF;split
  .rcases ar:p.funcs[n.toNat]? with _|f
   .have fb:q.funcs[n.toNat]?=none:=UX;rw[fb]
   .have ao:=(cS.1 ar).1;obtain⟨f',fb⟩:∃f',q.funcs[n.toNat]?=some f':=⟨_,ey GQ⟩;have bh:f'.params=f.params:=by
     have Bt:=hq dp.params (bA f f' (bQ ar) (h.rel _ f f' ar fb)).eq;exact Bt
    rw[fb];simp[iW,bh]
  .rfl
 have aui:=afq h cZ bz.right λf f' ar aM _=>aJn cZ.afp (bA f f' ar aM).right;have h4:=(aIE h (λg bf=>(bz.Dq bf).gj) λf f' ar aM=>(bA f f' ar aM).vs).1;have aQ:q.ok:=by
  refine⟨h.len▸bz.ok.Xx,λf' fb=>?_,h.fu▸bz.ok.Xy,h.fu▸bz.ok.Xz,h.data▸bz.ok.data,h.fA▸bz.ok.fA⟩;have⟨f,ar,aq⟩:=e7 f' fb;have aj:=bz.ok.funcs f ar;have a7:=bz.sz f ar;have ej:=aq.size;have a1:f'.ae=f.ae:=GX;have iq:f'.bZ=f.bZ:=GX;refine⟨(GX:f'.params=f.params)▸aj.params,a1▸aj.ae,(GX:f'.hO=f.hO)▸aj.nsec,iq▸aj.ad4,iq▸aj.bZ,bx aq.len aj.XC,λb I=>⟨?_,λx aa=>(aq.ah b I x aa).1,aq.av b I⟩⟩;have:=Kh I;omega
 have auj:C1 q:=by
  refine⟨h.len▸bz.rA.rB,h.fu▸bz.rA.afb,h.fu▸bz.rA.afc,λf' fb=>?_⟩;have⟨f,ar,aq⟩:=e7 f' fb;have⟨J,ab,_⟩:=bz.rA.f f ar;have a7:=bz.sz f ar;have ej:=aq.size;have a1:f'.ae=f.ae:=GX;have iq:f'.bZ=f.bZ:=GX;refine⟨by rwa[a1],by rwa[iq],λb I=>⟨?_,λx aa=>(aq.ah b I x aa).2⟩⟩;have:=Kh I;omega
 refine⟨⟨aQ,auj,aui,h.fA,h.data,by rw[h.fu],h.len,auh h.len λi f f' ar fb=>?_,λi f f' ar fb=>?_,λN b2 bI bu cj h0=>?_,h4.two⟩,aQ,auj,aui,λf' fb=>?_⟩
 .have aq:=bA f f' (bQ ar) (h.rel i f f' ar fb);have J:=aq.size;have ab:=aq.len;rw[Y9,Y9];omega
 .have aq:=bA f f' (bQ ar) (h.rel i f f' ar fb);exact⟨GX,GX⟩
 .have⟨l,t,e,aS⟩:=h4.run N b2 bI bu cj h0;exact e▸⟨h0,rfl,rfl,aS⟩
 .have⟨f,ar,aq⟩:=e7 f' fb;have a7:=bz.sz f ar;have J:=aq.size;have ab:=aq.len;exact⟨U,U⟩
def auk(bz:oE p){f}(ar:f∈p.funcs){jz}(h:vC f.ae f.blocks jz):Lj p f {f with blocks:=jz}:=by
 have⟨J,ab,aK⟩:=aIQ h rfl rfl (bz.Dq ar);have aj:=bz.ok.funcs f ar;have⟨_,_,CN⟩:=bz.rA.f f ar;refine⟨rfl,J,ab,IV aK.1,aK.size,λb' da x aa=>?_,λb' da=>?_⟩
 .have⟨b,I,_,aC⟩:=aK.mem da;exact⟨(aj.blocks b I).ah x (aC.subset aa),(CN b I).2 x (aC.subset aa)⟩
 .have⟨b,I,aS,_⟩:=aK.mem da;exact aS▸(aj.blocks b I).av
def Lj.ways(bz:oE p){f g}(ar:f∈p.funcs)(h:Lj p f g):Lj p f {g with blocks:=vD g.blocks}:=by
 have a7:=bz.sz f ar;have nG:0<=g.ae:=by have:=h.right.params;omega
 have nX:kd (λx=>rb p g x/\x.ok/\x.args.length<=4000) g.ae g.blocks.length (gJ g.blocks) g.blocks :=
  ⟨h.right.gj,b4 _,b4 _,λb I x aa=>⟨h.right.ah b I x aa,h.ah b I x aa⟩,λb I=>⟨h.av b I,(h.right.av b I).bp,(h.right.av b I).op,(h.right.av b I).reads⟩⟩
 have cj:g.blocks.length<=100000:=GQ;have Dr:=nX.ways cj nG;refine⟨by rw[h.eq],h.vs.trans (aIP g nX cj nG),⟨h.right.params,h.right.hO,Dr.gj.pos,λb I x aa=>X8 (f:=g) (f':={g with blocks:=vD g.blocks}) ⟨rfl,rfl,λ_=>rfl⟩ rfl rfl (Dr.ah b I x aa).1,λb I=>⟨(Dr.FM b I).bp,(Dr.FM b I).reads,(Dr.FM b I).op,Dr.gj.gV b I⟩⟩,bx Dr.len h.len,bx Dr.size h.size,λb I x aa=>(Dr.ah b I x aa).2,λb I=>(Dr.FM b I).ok⟩
def aJo(bz:oE p){f}(ar:f∈p.funcs):Lj p f f:=by
 have aj:=bz.ok.funcs f ar;have⟨_,_,CN⟩:=bz.rA.f f ar;exact⟨rfl,.refl,bz.Dq ar,b4 _,b4 _,λb I x aa=>⟨(aj.blocks b I).ah x aa,(CN b I).2 x aa⟩,λb I=>(aj.blocks b I).av⟩
end
attribute[local irreducible] W ad
def ag9(f f':dp):Prop:=∃jz,vC f.ae f.blocks jz/\f'={f with blocks:=jz}
def aha(f f':dp):Prop:=f'={f with blocks:=vD f.blocks}
def aJp:NA 21 (λf=>pC f.ae f.blocks) ag9:=by
 intro B N u bv f j k w n G H D g z hm P a F C;have⟨O,M,L,rg,E,bl⟩:=f;have a:bC bv=bl:=a;subst a;refine(aul B u bv ⟨O,M,L,rg,E,bC bv⟩ j k w n (dF 9) (P.fC g (bx g z) hm) H).mono ?_;rintro v aw s ⟨R,rfl,y,K,d,T,Q⟩;have eT:∀{e:TypeId},e≠48->∀i b,B.m i=some b->b.elem=e->aw.m i=some b:=by
  intro e he i b I lq;rw[d.2 i (s.aO _ _ I) (c2 I hm xA)];exact I
 have row:∀{α:Type}{e:TypeId}{A:Option Addr}{l:List α}{dy:α->Value},e≠48->e≠53->e≠25->rW B N e A l dy->rW (q4 aw) N e A l dy:=by
  intro α e A l dy J U V aM;exact ak8
 exact⟨_,_,rfl,⟨j,k,w,n,cV u,dF 9,G,rfl,D,(row bo bo bo F).gK λ_=>rfl,(row bo bo bo C).gK λ_=>rfl,y.cut.gK⟩,⟨_,K,rfl⟩,d.mono λi _ e=>by rwa[e]⟩
def aJq:NA 22 (λf=>pC f.ae f.blocks) aha:=by
 intro B N R bv f D E G F Q g M C K hm u d O L;have w:bv.length=f.blocks.length:=by rw[<-d,jF]
 refine(aum B R bv f D E G F (dF 9) d.symm (w▸g.pos) (w▸g.len) (u.fC C (bx C K) hm) (d▸g.gV) (by rw[<-aun,d];exact g.size)).mono ?_;rintro v aw s ⟨y,U,rfl,H,T,z,V⟩;have P:∀{e:TypeId},e≠48->e≠42->∀i b,B.m i=some b->b.elem=e->aw.m i=some b:=by
  intro e he Y i b I lq;rw[z.2 i (s.aO _ _ I) λa=>?_]
  .exact I
  .rcases a with a|⟨x,aa,j,n⟩
   .exact c2 I hm xA a
   .exact c2 I (u.row x aa j).2 xA n.symm
 have row:∀{α:Type}{e:TypeId}{A:Option Addr}{l:List α}{dy:α->Value},e≠48->e≠42->e≠53->e≠25->rW B N e A l dy->rW (q4 aw) N e A l dy:=by
  intro α e A l dy J h0 W X aM;exact aM.up λi b I lq=>Jw (P J h0 i b I lq) xA xA
 have k:c0 (q4 aw) (cV y) 9 (vD f.blocks) (yb (q4 aw)):=by
  have:=H.cut.gK;rw[T,d] at this;exact dm
 rw[d];exact⟨_,_,rfl,⟨D,E,G,F,cV y,dF 9,Q,rfl,M,(row bo bo bo bo O).gK λ_=>rfl,(row bo bo bo bo L).gK λ_=>rfl,k⟩,rfl,z.mono λi _ e=>by
  rcases e with e|⟨x,aa,j,n⟩
  .rwa[e]
  .exact n▸(u.row x aa j).1⟩
instance aSA:Kq prog 38 [.int .i64,.int .i64]:=⟨ax⟩
def auo a b:r1 [.int .i64,.int .i64] (dX a) (dX b)=some (decide (a.ck=b.ck)&&decide (a.num=b.num)):=by
 unfold dX;show some ((a.ck==b.ck)&&((a.num==b.num)&&true))=_;rw[Md];rfl
def aAX x y A c u j h:bc prog 107 ⟨[.agg ⟨cL x A c⟩,.agg ⟨cL y u j⟩]⟩ h (.bool (Ik x y)) h:=by
 refine bc.jT func107 ntmps107 ?_;conv=>arg 2;whnf
 repeat'(first|(apply ad.aJs;(iterate 4 rfl);first|exact auo x.a y.a|exact auo x.b y.b)|apply ad.aJt;iterate 4 rfl|refine Ey ?_|refine vx ?_|refine k7 ?_|refine pz ?_|refine AW ?_|(refine c7 ?_ ?_)<;>intro _)
 all_goals refine cf _ (dt rfl) ⟨rfl,?_⟩
 all_goals simp[fp,Ik, *]
 all_goals rfl
def aJu{n}x{A c}(d:∀a,A=some a->a.block<n):bw n (.agg ⟨cL x A c⟩):=by
 rw[qK];exact λv aE=>afs _ d v lL
def aup x A c h(u:∀a,A=some a->a.block<h.n):bc prog 94 ⟨[.agg ⟨cL x A c⟩]⟩ h (.agg ⟨cL (lN x) A c⟩) h:=by
 refine bc.rX func94 ntmps94 (λj=>⟨b4 _,aJu _ u,λi b I=>⟨j.aO i b I,j.dP i b I⟩⟩) λπ j=>?_;conv=>arg 2;whnf
 unfold lN SU;repeat'(first|refine wH ?_|refine zr ?_|refine vz ?_|refine c8 ?_|refine Na ?_|refine fy ?_|(refine c7 ?_ ?_)<;>intro _)
 all_goals refine cf _ (.cons (.Ay rfl rfl rfl (dM rfl)) .nil) λv a=>⟨?_,a.up⟩
 all_goals first
  | (rw[au akD];rfl)
  | (rw[ai akD];rfl)
structure Io where
 k:FP
 A:Option Addr
 c:Nat
def OQ(v:Io):List Value:=cL v.k.1 v.A v.c++[.int .i64 v.k.2]
def aJv v:(OQ v).length=13:=rfl
def eZ(l:List Io):List (List Value):=l.map OQ
def S1 l:∀c∈eZ l,c.length=13:=by
 intro c aB;obtain⟨v,_,rfl⟩:=ih.1 aB;rfl
def ayN l:(eZ l).flatten.length=l.length*13:=by
 rw[yi (S1 l)];simp[eZ]
def anI{l i v}(h:l[i]?=some v):cr (0+i*13) 13 (eZ l).flatten=OQ v:=by
 rw[hs];apply kg;intro j;rw[tl];split
 .rename_i aA;rw[xq,ff,G1 (S1 l) i j aA];rw[eZ,gf,h];rfl
 .rename_i aA;rw[wh (by rw[aJv];omega)]
structure j1(h:aV)(N aL bt:Nat)(s:nk):Prop where
 rw:df<=N
 fL:N<=aL
 FT:N<=bt
 hm:h.m bt=some ⟨⟨[]⟩,iv s.m⟩
 ok:ke s.m
 row:∃(r:Nat) (l:List Io),l.map (·.k)=s.w/\h.m aL=some ⟨⟨[.map (some bt),cD 13 r (eZ l)]⟩,143⟩/\(l≠[]->N<=r/\h.m r=some ⟨⟨(eZ l).flatten⟩,164⟩)
def j1.up{h H N e a s}(o:j1 h N e a s)(hu:∀i b,h.m i=some b->H.m i=some b):j1 H N e a s:=by
 have⟨r,l,J,j,g⟩:=o.row;exact⟨o.rw,o.fL,o.FT,hu _ _ o.hm,o.ok,r,l,J,hu _ _ j,λd=>⟨(g d).1,hu _ _ (g d).2⟩⟩
def anR a u h N w v s(o:j1 h N w v s):bc prog 73 ⟨[.pointer (some ⟨w,0,none⟩),.agg ⟨dX a⟩,.int .i64 u]⟩ h (.agg ⟨dX (hA s.m a u)⟩) h:=by
 refine bc.aO λaq=>?_;have⟨r,l,ao,cF,A⟩:=o.row;have k8:=aq _ _ cF;have e9:=o.hm;have p4:=aq _ _ e9;have J8:=bx o.rw o.FT;have mF:=o.ok.bF;have dZ:bw h.n (.map (some v)):=Mp;have n2:=aIU o.ok ⟨0,0⟩ a.ck;unfold hA;generalize FO s.m a.ck=q at n2|-;rcases q with _|q
 .simp[Option.getD_none,Uh] at n2;refine bc.still (c:=(f73.body.getD .skip)) func73 ax ntmps73 ax yL ?_;conv=>arg 2;whnf
  repeat'(first|refine W5 ?_|refine apd ?_|refine WX ?_|refine uL ?_|refine pv ?_|refine No ?_|refine vz ?_|refine hW ?_|refine EC ?_|refine ou ?_|(refine c7 ?_ ?_)<;>intro _)
  all_goals refine cf _ (.cons (.Ay rfl rfl rfl (dM rfl)) .nil) ⟨rfl,?_⟩
  all_goals split<;>rfl
 .simp[yG,aaS] at n2;refine bc.still (c:=(f73.body.getD .skip)) func73 ax ntmps73 ax yL ?_;conv=>arg 2;whnf
  repeat'(first|refine W5 ?_|refine apd ?_|refine WX ?_|refine rR ?_|refine k7 ?_|refine No ?_|refine vz ?_|refine hW ?_|refine Ez ?_|refine fy ?_|(refine c7 ?_ ?_)<;>intro _)
  all_goals refine cf _ (.cons (.Ay rfl rfl rfl (dM rfl)) .nil) ⟨rfl,?_⟩
  all_goals first
   | (rw[ai h3];rfl)
   | (rw[au h3];dsimp only;first|rw[au Mu];rfl|rw[ai Mu];rfl)
def aJw{w:List FP}{i k}(h:w[i]?=some k)x:mi (w.drop i) x=if Ik k.1 x=true then k.2 else mi (w.drop (i+1)) x:=by
 have⟨ao,he⟩:=cS.1 h;rw[sq ao,he,mi]
def anx x A c h N C M s(hw:s.w.length<=1000000000)(o:j1 h N C M s):bc prog 95 ⟨[.pointer (some ⟨C,0,none⟩),.agg ⟨cL x A c⟩]⟩ h (.int .i64 (mi s.w x)) h:=by
 have⟨r,l,ao,Q,O⟩:=o.row;have J:l.length=s.w.length:=by rw[<-ao];simp
 refine bc.rX func95 ntmps95 (λu=>⟨b4 _,aF,λi b I=>⟨u.aO i b I,u.dP i b I⟩⟩) λπ u=>?_;conv=>arg 2;whnf
 have cF:=Q;have k8:=u.aO _ _ cF;rw[jO] at cF;have z:(eZ l).length=l.length:=Ms;refine Kb ?_;apply W.seq;refine ad1 ?_;rw[z];refine W.hz (X:=Nat) (λi=>[(0,cE C),(10,.slice (if eZ l=[] then none else cV r) l.length (if eZ l=[] then 0 else dF 13)),(11,bm (l.length:Int)),(12,bm (i:Int)),(3,cE (π 0))])
  (λi B=>i<=l.length/\(∀j b,h.m j=some b->B.m j=some b)/\mi s.w x=mi (s.w.drop i) x/\B.m (π 0)=bS (cL x A c) 42) (λi=>l.length-i)
  (λaD a=>⟨0,ca,⟨dG _,a.up,rfl,a.bJ 0 (bo:(0:Nat)<1)⟩⟩) ?_
 rintro i B R E ⟨ag,hu,ar,aa⟩;have jJ:=E.aO _ _ aa;by_cases bs:i<l.length
 .have⟨v,aE⟩:=cR l i bs;have D:s.w[i]?=some v.k:=by rw[<-ao,gf,aE];rfl
  have F:l≠[]:=abc;have G:eZ l≠[]:=by intro e;rw[e] at z;exact F (mr.1 z.symm)
  have aM:=hu _ _ (O F).2;have zj:=E.aO _ _ aM;have hle:0+i*13+13<=(eZ l).flatten.length:=abY;rw[ai G,ai G];rw[aJw D] at ar;have⟨sm,wP⟩:=ld (Ik v.k.1 x);cases sm with
  | true =>
   repeat(first|refine er ?_|refine iR ?_|refine vz ?_|refine c8 ?_|refine fy ?_|refine aoh ?_|refine aoW ?_|refine Xg ?_|(with_reducible first|apply W.seq|apply W.block|apply W.ret|apply W.skip|apply fr|apply sN|apply wF|apply auq))
   rw[wP,au rfl] at ar;exact ake
  | false =>
   repeat(first|refine er ?_|refine n4 ?_|refine la ?_|refine AX ?_|refine oR ?_|refine aoh ?_|refine aoW ?_)
   rw[wP,ai bo] at ar;exact eK rfl λaD a=>⟨i+1,ca,⟨bs,λj b I=>a.up _ _ (hu _ _ I),ar,a.up _ _ aa⟩,U⟩
 .have L:i=l.length:=U;subst L;repeat(first|refine JT ?_|refine uS ?_)
  rw[J,I9] at ar;exact ake
end
end Go.Proofs.YtplleokmejppjaaGreatDoor
