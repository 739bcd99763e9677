/- Contracts of functions that the law reaches -/
import Derived.Maps.RangeRun
import Derived.Test.YtplleokmejppjaaGreatDoorR26
set_option linter.all false
set_option maxHeartbeats 9999999
set_option maxRecDepth 100000
namespace Go.Proofs.YtplleokmejppjaaGreatDoor
open Go.Proofs.Tryz
open Go.AH
section
attribute[local irreducible] W ad
structure OR(aL bt:Nat)(h aw:aV):Prop where
 le:h.n<=aw.n
 m:∀i b,h.m i=some b->i≠aL->i≠bt->aw.m i=some b
def UY l v:eZ l++[OQ v]=eZ (l++[v]):=Ms
def ahc{l}:eZ l=[]↔l=[]:=Ms
def aur{α:Type}p{l:List α}{i v}(h:l[i]?=some v):(l.take (i+1)).filter p=(l.take i).filter p++(if p v=true then[v] else[]):=by
 rw[Aw,h,Option.toList_some,P2];congr 1;simp[aaV]
structure S3(h:aV)(p:Io->Bool)(l:List Io)(i cu:Nat)(B:aV):Prop where
 up:∀j b,h.m j=some b->B.m j=some b
 le:h.n<=B.n
 row:(l.take i).filter p≠[]->h.n<=cu/\B.m cu=some ⟨⟨(eZ ((l.take i).filter p)).flatten⟩,164⟩
def S3.push{h B a d:aV}{p l i q g v}(w:∀i b,h.m i=some b->i<h.n)(f:S3 h p l i q B)(s:(l.take (i+1)).filter p=(l.take i).filter p++[v])(u:∀j b,B.m j=some b->a.m j=some b)(y:∀j b,a.m j=some b->j<a.n)(x:B.n<=a.n)(C:a.n<=g)(A:d.m g=some ⟨⟨(eZ ((l.take i).filter p)++[OQ v]).flatten⟩,164⟩)(z:a.n<=d.n)(r:∀j,j<a.n->(eZ ((l.take i).filter p)≠[]->j≠q)->d.m j=a.m j):S3 h p l (i+1) g d:=by
 have t:=f.le;refine⟨λj b I=>?_,U,λ_=>⟨U,by rwa[s,<-UY]⟩⟩;have k:=u _ _ (f.up _ _ I);rw[r j (y _ _ k) (λak=>?_)]
 .exact k
 .have:=(f.row (λe=>ak qH)).1;have:=w _ _ I;omega
def j1.ne{h N b a s}(o:j1 h N b a s):a≠b:=by
 intro e;have⟨r,l,_,d,_⟩:=o.row;have:=o.hm;rw[e,d] at this;injection this with this;injection this with _ this;have c:=JC s.m;rw[<-this] at c;exact absurd c bo
def aJy{h B e:aV}{N a g s}(x:∀i b,h.m i=some b->i<h.n)(o:j1 h N a g s)(u:∀j b,h.m j=some b->B.m j=some b)(q:h.n<=B.n)f d(w:d≠[]->h.n<=f/\B.m f=some ⟨⟨(eZ d).flatten⟩,164⟩)(v:∀j b,(B.set a ⟨⟨[.map (some g),cD 13 f (eZ d)]⟩,143⟩).m j=some b->e.m j=some b)(t:B.n<=e.n):j1 e N a g ⟨s.m,d.map (·.k)⟩/\OR a g h e:=by
 have⟨r,l,_,y,_⟩:=o.row;have z:=x _ _ y;have A:=o.fL;have off:∀j b,B.m j=some b->j≠a->e.m j=some b:=λj b I aA=>v j b (by show(if j=a then _ else B.m j)=_;rwa[ai aA]);refine⟨⟨o.rw,o.fL,o.FT,off _ _ (u _ _ o.hm) o.ne,o.ok,f,d,rfl,v _ _ (by show(if a=a then _ else B.m a)=_;rw[au rfl]),λak=>?_⟩,⟨bx q t,λj b I J _=>off _ _ (u _ _ I) J⟩⟩;have⟨g1,g2⟩:=w ak;exact⟨U,off _ _ g2 U⟩
def aus h N c u s(hw:s.w.length<=1000000000)(o:j1 h N c u s):dw prog 93 [.pointer (some ⟨c,0,none⟩)] h (λv aw=>v=.tuple #[]/\j1 aw N c u ⟨s.m,sf s.w⟩/\OR c u h aw):=by
 have⟨r,l,D,R,Q⟩:=o.row;have Z:l.length=s.w.length:=by rw[<-D];simp
 refine dw.i func93 ntmps93 λπ C=>?_;conv=>arg 2;whnf
 have aq:=C.aO;have cF:=R;have k8:=aq _ _ cF;rw[jO] at cF;refine uU ?_;apply W.seq;refine ad1 ?_;refine W.hz (X:=Nat×Nat) (λx=>[(0,cE c),(8,.slice (if eZ l=[] then none else cV r) l.length (if eZ l=[] then 0 else dF 13)),(9,bm (l.length:Int)),(10,bm (x.1:Int)),(2,cD 13 x.2 (eZ ((l.take x.1).filter λv=>decide (v.k.1.op≠26))))])
  (λx B=>x.1<=l.length/\S3 h (λv=>decide (v.k.1.op≠26)) l x.1 x.2 B) (λx=>l.length-x.1)
  (λaD a=>⟨(0,0),by(rw[<-(Ms:(eZ l).length=l.length)];exact ca),⟨dG _,a.up,a.le,λak=>by simp at ak⟩⟩) ?_
 rintro⟨i,cu⟩ B fo z ⟨ag,bd⟩;dsimp only at ag bd|-;by_cases bs:i<l.length
 .have⟨v,aE⟩:=cR l i bs;have A:l≠[]:=abc;have F:eZ l≠[]:=λe=>A (ahc.1 e);have aM:=bd.up _ _ (Q A).2;have zj:=z.aO _ _ aM;have hle:0+i*13+13<=(eZ l).flatten.length:=abY;have ki:=aur (λv:Io=>decide (v.k.1.op≠26)) aE;have qI:((l.take i).filter λv=>decide (v.k.1.op≠26)).length<=1000000000:=bx (Gu _ _) ami;rw[ai F,ai F];by_cases dC:v.k.1.op=26
  .repeat(first|refine er ?_|refine Nd ?_|refine hL ?_|refine n4 ?_|refine la ?_|refine CF ?_)
   rw[ai (by simp[dC]),l2] at ki;exact UL
  .repeat(first|refine er ?_|refine Nd ?_|refine gP ?_|refine na ?_|refine la ?_|refine vz ?_|refine kW ?_|apply ad.Sw (L:=eZ ((l.take i).filter λv=>decide (v.k.1.op≠26)));(iterate 6 rfl);exact λIp G=>⟨G.bJ 1 (bo:(1:Nat)<2),λak=>(have ak:(l.take i).filter (λv=>decide (v.k.1.op≠26))≠[]:=λe=>ak qH;⟨bx C.rw (bd.row ak).1,G.up _ _ (bd.row ak).2⟩)⟩;exact S1 _;rfl;rfl;(rw[show(eZ ((l.take i).filter λv=>decide (v.k.1.op≠26))).length=_ from fI ..];omega);(rw[show(eZ ((l.take i).filter λv=>decide (v.k.1.op≠26))).length=_ from fI ..];omega);intro gL f GP hJ V Y T S J O)
   rw[au (by simp[dC])] at ki;have AA:=bd.push aq ki f.up f.aO f.le T S J O;exact ajR
 .have M:i=l.length:=U;subst M;rw[mv] at *;have E:=bd.up _ _ cF;rw[jO];repeat(first|refine hL ?_|refine nz ?_|refine c8 ?_|refine Nf ?_|refine lC ?_|apply ad.gi;rfl;rfl;rfl;exact E;exact z.aO _ _ E;exact bx o.rw o.fL;exact iu;iterate 3 rfl)
  refine sx [] .nil λaD a=>⟨rfl,?_⟩;have:=aJy aq o bd.up bd.le cu (l.filter λv=>decide (v.k.1.op≠26)) (λak=>by have:=bd.row (by rwa[mv]);rw[mv] at this;exact dm) (by rw[jO];exact a.up) a.le;have e:(l.filter λv=>decide (v.k.1.op≠26)).map (·.k)=sf s.w:=by rw[sf,<-D,List.filter_map];rfl
  rw[e] at this;exact dm
def yv(r:Int)(row:rL):Bool:=decide (row.2.getD 1 0≠r)
structure Dt(B:aV)(h5:eY)(h6:World)(aL bt it:Nat)(r:Int)(V:Value)(m0:gm)(D:Nat->Prop)(H:aV)(ρ:eY)(W:World)(m:gm)(cm:Array Nat)(iJ:Nat):Prop where
 aQ:db prog.globals.size H ρ W
 ext:Ext B H h5 ρ h6 W
 bL:B.n<=it
 ag:it<H.n
 I:H.m aL=some ⟨⟨[.map (some bt),V]⟩,143⟩
 hm:H.m bt=some ⟨⟨[]⟩,iv m⟩
 eT:∀i b,B.m i=some b->i≠bt->H.m i=some b
 iter:W.heap[ρ.bJ it]?=some (.mapIter (some (ρ.bJ bt)) m0.hE cm iJ)
 new:h6.heap.size<=ρ.bJ it
 fO:ρ.fO it=0
 ok:ke m
 Lk:m.hE=m0.hE
 iJ:m0.hE<=iJ
 done:∀row∈m.eN,D row.1->yv r row=true
 S5:m.eN.filter (yv r)=m0.eN.filter (yv r)
def Dt.rI{B l k s q d r V f D H ρ W m cm j}(g:Dt B l k s q d r V f D H ρ W m cm j):∀i b,H.m i=some b->ρ.bJ i≠ρ.bJ d:=by
 intro i b I e;have ar:=g.aQ.fa i b I;rw[e,g.iter] at ar;rcases ar with⟨_,_,_,aa,_⟩|⟨_,aa,_⟩<;>cases aa
def Dt.step{B:aV}{L:eY}{K:World}{v s q:Nat}{r:Int}{V:Value}{F:gm}{D:Nat->Prop}{H:aV}{ρ:eY}{W:World}{m:gm}{cm:Array Nat}{iJ:Nat}(g:Dt B L K v s q r V F D H ρ W m cm iJ){H':aV}{ρ':eY}{W':World}{m':gm}(O:db prog.globals.size H' ρ' W')(d:Ext H H' ρ ρ' W W')(Q:H'.m v=H.m v)(M:H'.m s=some ⟨⟨[]⟩,iv m'⟩)(aj:∀i b,H.m i=some b->i≠s->H'.m i=some b)(z:ke m')(E:m'.hE=m.hE){D':Nat->Prop}(C:∀row∈m'.eN,D' row.1->yv r row=true)(A:m'.eN.filter (yv r)=m.eN.filter (yv r)):Dt B L K v s q r V F D' H' ρ' W' m' cm iJ where
 aQ:=O
 ext:=g.ext.trans d
 bL:=g.bL
 ag:=eQ g.ag d.mono
 I:=Q.trans g.I
 hm:=M
 eT i b J ab:=aj i b (g.eT i b J ab) ab
 iter:=by
  rw[(d.hU q g.ag).1,(d.hU s (g.aQ.lt _ _ g.hm)).1,d.l8 _ ((Ar.1 g.iter).1) (λi b _ I=>g.rI i b I)];exact g.iter
 new:=(d.hU q g.ag).1▸g.new
 fO:=(d.hU q g.ag).2.2▸g.fO
 ok:=z
 Lk:=E.trans g.Lk
 iJ:=g.iJ
 done:=C
 S5:=A.trans g.S5
def Dt.aJD{B l v y k f r V j D H ρ W m cm A}(g:Dt B l v y k f r V j D H ρ W m cm A){d}(hw:d=W\/d=W.drew)e:
 Dt B l v y k f r V j D H ρ (ChangeMaps.setBlock d (ρ.bJ f) (.mapIter (some (ρ.bJ k)) j.hE (cm.push e) m.hE)) m (cm.push e) m.hE:=by
 have F:d.heap=W.heap/\d.tape=W.tape/\d.os=W.os/\d.output=W.output:=by rcases hw with rfl|rfl<;>exact⟨rfl,rfl,rfl,rfl⟩
 have⟨s,K,C,z⟩:=F;have q:∀c,c≠ρ.bJ f->(ChangeMaps.setBlock d (ρ.bJ f) (.mapIter (some (ρ.bJ k)) j.hE (cm.push e) m.hE)).heap[c]?=W.heap[c]?:=by
  intro c aB;simp[ChangeMaps.setBlock,s,PT,ai (PO aB)]
 refine⟨⟨λi b I=>q _ (g.rI i b I)▸g.aQ.fa i b I,g.aQ.lt,g.aQ.inj,g.aQ.dP,g.aQ.fu,g.aQ.kk,g.aQ.nx⟩,⟨g.ext.hU,g.ext.mono,λc aB ak=>?_,by have:=g.ext.size;simp[ChangeMaps.setBlock,s];exact dm,g.ext.fC,by show d.tape=_;exact K▸g.ext.tape,by show d.os=_;exact C▸g.ext.os,by show d.output=_;exact z▸g.ext.output,λi b ag I=>?_⟩,g.bL,g.ag,g.I,g.hm,g.eT,by simp[ChangeMaps.setBlock,s,(Ar.1 g.iter).1],g.new,g.fO,g.ok,g.Lk,g.Lk▸b4 _,g.done,g.S5⟩
 .have:=g.new;exact q c U▸g.ext.l8 c aB ak
 .have⟨c,J,ab,aK⟩:=g.ext.pq i b ag I;refine⟨c,J,ab,?_⟩;have:=g.new;have E:l.bJ i≠ρ.bJ f:=by
   intro e;have:=g.rI i b I;rw[(g.ext.hU i ag).1] at this;exact this e
  rwa[q _ E]
def aJE{ρ a d v}(aE:bw 0 v):(eU ρ a).put d v=eU ρ (a.put d v):=by rw[MK,rE ρ v aE]
def FV{ρ G a f x v}(bf:∀g,g<G->ρ.bJ g=g/\ρ.fO g=0)(g:gZ f a)(aa:f.ev x=some v)(aj:rF G x):(eU ρ a).eval x=bP ρ v:=by rw[y4 bf a x aj,g.ev aa]
section
variable{o:Oper}{ev:Operand->Value}{W W':World}
def aut{x u v}(aH:o.op=.next x false)(aa:ev x=u)(aM:(Instr.next u false o.type).run prog W=.ok v W'):(execOp ev o).run prog W=.ok (.value v) W':=by
 simp[execOp,aH,aa,gG,aM,hj,hQ]
def aJF{x u v}(aH:o.op=.entry x)(aa:ev x=u)(aM:(Instr.entry u).run prog W=.ok v W'):(execOp ev o).run prog W=.ok (.value v) W':=by
 simp[execOp,aH,aa,gG,aM,hj,hQ]
def Zb{x i vs v}(aH:o.op=.extract x i)(aa:ev x=.tuple vs)(ag:vs[i]?=some v):(execOp ev o).run prog W=.ok (.value v) W:=by
 simp[execOp,aH,aa,gG,Instr.extract,ag,hj,hQ]
def aJG{x v}(aH:o.op=.assign x)(aa:ev x=v):(execOp ev o).run prog W=.ok (.value v) W:=by
 simp[execOp,aH,aa,hQ]
def Iq{an l i Q ρ a v d}(aH:an[i]?=some o)(bf:o.guard=none)(b:o.dst=d)(aM:(execOp (eU ρ a).eval o).run prog W=.ok (.value v) W')(aE:bw 0 v)(hw:wpOps prog an Q l (eU ρ (a.put d v)) W'):wpOps prog an Q (i::l) (eU ρ a) W:=by
 refine auu aH bf aM ?_;rwa[b,aJE aE]
end
def OT{o an l i Q ρ a W H H' v d}(aH:an[i]?=some o)(bf:o.guard=none)(aq:o.dst=d)(aS:bE prog o a.eval H v H'){xs}(j:o.op.operands.toList=xs)(aj:∀x∈xs,rF prog.globals.size x)(g:gI H.n a)(e:db prog.globals.size H ρ W)(hw:∀ρ' W',db prog.globals.size H' ρ' W'->Ext H H' ρ ρ' W W'->gI H'.n (a.put d v)->wpOps prog an Q l (eU ρ' (a.put d v)) W'):wpOps prog an Q (i::l) (eU ρ a) W:=by
 refine auv aH bf (aS (λx aa=>AG e.kF g x (aj x (by rw[<-j];simpa using aa))) ρ W e (eU ρ a) _ Q (λx aa=>y4 e.fu a x (aj x (by rw[<-j];simpa using aa))) λρ' W' aE k b=>?_);rw[(by rw[MK,acn b.hU g,aq]:(eU ρ a).put o.dst (bP ρ' v)=eU ρ' (a.put d v))];exact hw ρ' W' k b (qL (Ee b.mono g) _ aE)
abbrev Zc(aL it:Nat)(r:Int):List (Nat×Value):=[(18,.pointer (some ⟨it,0,none⟩)),(1,.int .i64 r),(0,.pointer (some ⟨aL,0,none⟩))]
noncomputable def OU:Code:=match f92.body with
 | some (.seq _ (.seq (.seq _ (.block _ (.loop b))) _))=>b
 | _=>.skip
noncomputable def auw:Code:=match OU with
 | .seq _ (.seq _ (.block _ (.seq _ b)))=>b
 | _=>.skip
def S6(B:aV)(h5:eY)(h6:World)(aL bt it:Nat)(r:Int)(V:Value)(m0:gm)(left:Nat->Prop)(A:Act)(W:World):Prop :=
 ∃a ρ H m cm iJ,A=eU ρ a/\gI H.n a/\gZ ⟨Zc aL it r,71⟩ a/\Dt B h5 h6 aL bt it r V m0 (λb=>cm.contains b=true) H ρ W m cm iJ/\left (leftOf m.es cm).size
def aJH{es JD}(h:JD.toList.Sublist es.toList)cm:(leftOf JD cm).size<=(leftOf es cm).size:=by
 have key:∀a:Array MapEntry,(leftOf a cm).size=(a.toList.filter λe=>!cm.contains e.born).length:=λa=>by
  rw[leftOf,<-Ap];simp
 rw[key,key];exact(h.filter _).length_le
def BB(m:gm)(r k:Int)(a:ho):gm:=if a.ck=r then m.del k else m
def aJI H(z:Sat prog H) w c it u r k a V m(I:H.m w=some ⟨⟨[.map (some c),V]⟩,143⟩)(hm:H.m c=some ⟨⟨[]⟩,iv m⟩)(B:df<=c)(A:m.s=0)(v:H.m u=some ⟨⟨dX a⟩,38⟩):
 W prog auw ⟨(4,.int .i64 k)::(5,.pointer (some ⟨u,0,none⟩))::Zc w it r,71⟩ (aY.of H) (λe f' aw=>e=.normal/\f'.al=71/\tr f'.l (Zc w it r)/\∀f,fG (P:=prog) aw f->f.n=H.n/\f.m c=some ⟨⟨[]⟩,iv (BB m r k a)⟩/\∀i b,H.m i=some b->i≠c->f.m i=some b):=by
 have j:=z.aO _ _ v;unfold auw OU;conv=>arg 2;whnf
 unfold BB;by_cases aM:a.ck=r
 .rw[au aM];repeat(first|(apply ad.dv;rfl;rfl;rfl;first|exact v;exact j;rfl|exact I;exact z.aO _ _ I;rfl)|apply ad.delete;(iterate 4 rfl);exact hm;exact z.aO _ _ hm;exact B;exact A|refine nz ?_|refine iR ?_|refine c8 ?_|refine Cz ?_|refine fy ?_)
  refine⟨rfl,rfl,ca,λf x=>⟨x.n,x.up _ _ ?_,λi b ag ak=>x.up _ _ ?_⟩⟩
  .show(if c=c then some _ else H.m c)=_;rw[au rfl]
  .show(if i=c then some _ else H.m i)=_;rwa[ai ak]
 .rw[ai aM];repeat(first|apply ad.dv;rfl;rfl;rfl;exact v;exact j;rfl|refine n4 ?_|refine nD ?_|refine zp ?_)
  exact⟨rfl,rfl,ca,λf x=>⟨x.n,x.up _ _ hm,λi b ag ak=>x.up _ _ ag⟩⟩
def aJJ{m}(ok:ke m){r}{row:rL}(aM:row∈m.eN){a}(aJ:row.2=mQ (mB row) a):ke (BB m r (mB row) a)/\(BB m r (mB row) a).hE=m.hE/\(BB m r (mB row) a).eN.filter (yv r)=m.eN.filter (yv r)/\(BB m r (mB row) a).eN.Sublist m.eN/\∀x∈(BB m r (mB row) a).eN,x.1=row.1->yv r x=true:=by
 have n:yv r row=decide (a.ck≠r):=by rw[yv,aJ];rfl
 have c:∀x∈m.eN,x.1=row.1->x=row:=λx aa e=>by
  have⟨i,ag⟩:=aaY aa;have⟨j,aA⟩:=aaY aM;have J:(m.eN.map (·.1))[i]?=some x.1:=by rw[gf,ag];rfl
  have d:(m.eN.map (·.1))[j]?=some x.1:=by rw[gf,aA,e];rfl
  have:i=j:=Y3 ok.OO J d;rw[this,aA] at ag;injection ag with ag;exact ag.symm
 unfold BB;by_cases h:a.ck=r
 .rw[au h];obtain⟨j,J,d⟩:=aIS aM rfl ok.SX;have g:m.del (mB row)={m with eN:=m.eN.eraseIdx j}:=by
   rw[gm.del,J];simp
  refine⟨ok.del _,by rw[g],?_,g▸UI _ _,λx aa e=>?_⟩
  .rw[g];show(m.eN.eraseIdx j).filter (yv r)=_;have q:=(cS.1 d).1;rw[List.eraseIdx_eq_take_drop_succ];conv=>rhs;rw[<-GC j m.eN,sq q]
   rw[P2,P2,aaV];have:m.eN[j]=row:=(cS.1 d).2;rw[this,n,ai yY]
  .rw[g] at aa;have aa:x∈m.eN.eraseIdx j:=aa;have u:=c x ((UI _ _).subset aa) e;subst u;exfalso;rw[ajG] at aa;have⟨i,v,ag⟩:=aa;have t:(m.eN.map (·.1))[i]?=some x.1:=by rw[gf,ag];rfl
   have s:(m.eN.map (·.1))[j]?=some x.1:=by rw[gf,d];rfl
   exact v (Y3 ok.OO t s)
 .rw[ai h];refine⟨ok,rfl,rfl,UF _,λx aa e=>?_⟩;rw[c x aa e,n];simpa using h
def aJK{B h5 h6 U w q r V D}(Du:df<=w)FW{A W}(h:S6 B h5 h6 U w q r V D (λn=>n=FW) A W):
 OU.wp prog (λe dz W'=>(e=.exit 0/\S6 B h5 h6 U w q r V D (λn=>n=0) dz W')\/(e=.normal/\S6 B h5 h6 U w q r V D (λn=>n<FW) dz W')) A W:=by
 obtain⟨a,ρ,H,m,cm,iJ,rfl,Ir,eS,bf,ao⟩:=h;have s:=bf.aQ.fu;have Z:=bf.ok.bF;have Q:∀x∈m.es.toList,∃row∈m.eN,x=sE 0 row:=λx aa=>by
  rw[MU,Z] at aa;have⟨row,J,T⟩:=ih.1 aa;exact⟨row,J,T.symm⟩
 have eC:∀x∈m.es.toList,x.born<D.hE:=λx aa=>by
  obtain⟨row,J,rfl⟩:=Q x aa;have:=bf.ok.low row J;rwa[<-bf.Lk]
 have O:∀(ρ:eY) (a:Act) (f:Fr),ρ.fO q=0->(∀g,g<prog.globals.size->ρ.bJ g=g/\ρ.fO g=0)->gZ f a->f.ev (.tmp 18)=some (cE q)->(eU ρ a).eval (.tmp 18)=.pointer (some ⟨ρ.bJ q,0,none⟩):=λρ a f J T aK br=>by
  rw[FV T aK br trivial];simp[fJ,J]
 have N:=O ρ a _ bf.fO s eS rfl;unfold OU;conv=>arg 2;whnf
 refine wp_seq (wp_region ?_);show wpOps _ _ _ [0,1] _ _;rcases run_next_at (P:=prog) W 0 (ρ.bJ q) (ρ.bJ w) D.hE iJ cm m.es m.hE bf.iter (((bf.aQ.fa _ _ bf.hm).map Du).1) eC bf.iJ with⟨h0,h4⟩|⟨e,he,dJ,auE,h4⟩
 .refine Iq rfl rfl rfl (aut rfl N h4) aF ?_;have X:=eS.put (d:=some 19) rfl (.tuple #[.bool false]);refine Iq rfl rfl rfl (Zb (vs:=#[.bool false]) rfl ((FV s X (x:=.tmp 19) rfl trivial).trans aF) rfl) aF ?_;have D6:=X.put (d:=some 20) rfl (.bool false);show Code.wp _ _ _ _ _;refine wp_seq (wp_cond (t:=false) ((FV s D6 (x:=.tmp 20) rfl trivial).trans aF) (wp_exit ?_));exact .inl ⟨rfl,_,ρ,H,m,cm,iJ,rfl,qL (qL Ir _ aF) _ aF,ayJ,bf,h0⟩
 .have⟨oj,aSC⟩:=mem_left he;obtain⟨row,e1,rfl⟩:=Q e oj;have⟨k,x,Zd,N1,pn⟩:=bf.ok.shape row e1;have q7:mB row=k:=by rw[mB,Zd];rfl
  have Ww:(sE 0 row).key=bm k:=by rw[ani,q7]
  have Dv:(sE 0 row).val=.agg ⟨dX x⟩:=by show(y3 0 row.2).2=_;rw[Zd];rfl
  rw[Ww,Dv] at h4;have E:=bf.aJD auE row.1;have kY:bw 0 (.tuple #[.bool true,bm k,.agg ⟨dX x⟩]):=yL;refine Iq (d:=some 19) (v:=.tuple #[.bool true,bm k,.agg ⟨dX x⟩]) rfl rfl rfl (aut rfl N h4) kY ?_;have X:=eS.put (d:=some 19) rfl (.tuple #[.bool true,bm k,.agg ⟨dX x⟩]);refine Iq (d:=some 20) (v:=.bool true) rfl rfl rfl (Zb rfl ((FV s X (x:=.tmp 19) rfl trivial).trans (rE ρ _ kY)) rfl) aF ?_;have D6:=X.put (d:=some 20) rfl (.bool true);show Code.wp _ _ _ _ _;refine wp_seq (wp_cond (t:=true) ((FV s D6 (x:=.tmp 20) rfl trivial).trans aF) (wp_skip ?_));show Code.wp _ _ _ _ _;refine wp_block (wp_seq (wp_region ?_));show wpOps _ _ _ [0,1,2,3,4,5] _ _;have NR:=run_entry_at (P:=prog) _ (ρ.bJ q) (ρ.bJ w) D.hE cm m.es m.hE (sE 0 row) E.iter (((E.aQ.fa _ _ E.hm).map Du).1) oj (by rw[MU,Z,Gv];exact bf.ok.OO);rw[Ww,Dv] at NR;have OW:bw 0 (.tuple #[bm k,.agg ⟨dX x⟩]):=yL;refine Iq (d:=some 21) (v:=.tuple #[bm k,.agg ⟨dX x⟩]) rfl rfl rfl (aJF rfl (O ρ _ _ bf.fO s D6 rfl) NR) OW ?_;have S7:=D6.put (d:=some 21) rfl (.tuple #[bm k,.agg ⟨dX x⟩]);refine Iq (d:=some 22) (v:=bm k) rfl rfl rfl (Zb rfl ((FV s S7 (x:=.tmp 21) rfl trivial).trans (rE ρ _ OW)) rfl) aF ?_;have OX:=S7.put (d:=some 22) rfl (bm k);refine Iq (d:=some 23) (v:=.agg ⟨dX x⟩) rfl rfl rfl (Zb rfl ((FV s OX (x:=.tmp 21) rfl trivial).trans (rE ρ _ OW)) rfl) yL ?_;have M:=OX.put (d:=some 23) rfl (.agg ⟨dX x⟩);have h9:∀{v:Value},bw 0 v->bw H.n v:=λh=>hc (dG _) _ h;have L:=qL (qL (qL (qL (qL Ir (some 19) (h9 kY)) (some 20) (v:=.bool true) aF) (some 21) (h9 OW)) (some 22) (v:=bm k) aF) (some 23) (h9 (yL:bw 0 (.agg ⟨dX x⟩)));generalize arI:((((a.put (some 19) (.tuple #[.bool true,bm k,.agg ⟨dX x⟩])).put (some 20) (.bool true)).put (some 21) (.tuple #[bm k,.agg ⟨dX x⟩])).put (some 22) (bm k)).put (some 23) (.agg ⟨dX x⟩)=a5 at M L|-;refine OT (d:=some 5) (v:=.pointer (some ⟨H.n,0,none⟩)) (H':=H.push ⟨⟨ei (.agg ⟨[bm 0,bm 0]⟩)⟩,38⟩) rfl rfl rfl (aJL (t:=38) rfl) rfl (λy aN=>JA) L E.aQ λsH MJ y6 sK auH=>?_;have Ze:=M.put (d:=some 5) rfl (.pointer (some ⟨H.n,0,none⟩));refine Iq (d:=some 4) (v:=bm k) rfl rfl rfl (aJG rfl ((FV y6.fu Ze (x:=.tmp 22) rfl trivial).trans aF)) aF ?_;have z:=Ze.put (d:=some 4) rfl (bm k);have aJM:=qL auH (some 4) (v:=bm k) aF;refine OT (d:=none) (v:=undef) (H':=(H.push ⟨⟨ei (.agg ⟨[bm 0,bm 0]⟩)⟩,38⟩).set H.n ⟨⟨dX x⟩,38⟩) rfl rfl rfl (aJN (t:=38) (blk:=H.n) (off:=0) (v:=.agg ⟨dX x⟩) rfl (z.ev (x:=.tmp 5) rfl) (z.ev (x:=.tmp 23) rfl) (Qi H ⟨⟨ei (.agg ⟨[bm 0,bm 0]⟩)⟩,38⟩) bf.aQ.kk (dM rfl) rfl rfl) rfl (λy aN=>by rcases dI.1 aN with rfl|aN;trivial;rcases dI.1 aN with rfl|aN;trivial;cases aN) aJM y6 λS R Ha JM K=>?_;have G:=z.put (d:=none) rfl undef;generalize aSD:(((a5.put (some 5) (.pointer (some ⟨H.n,0,none⟩))).put (some 4) (bm k)).put none undef)=o4 at G K|-;have bM:∀i b,H.m i=some b->i≠H.n:=λi b I e=>by have:=bf.aQ.lt i b I;omega
  have⟨Y,F⟩:=ld ((H.push ⟨⟨ei (.agg ⟨[.int .i64 0,.int .i64 0]⟩)⟩,38⟩).set H.n ⟨⟨dX x⟩,38⟩);have OY:∀j,Y.m j=if j=H.n then bS (dX x) 38 else H.m j:=λj=>by
   rw[<-F];show(if j=H.n then some _ else(if j=H.n then some _ else H.m j))=_;by_cases aA:j=H.n
   .rw[au aA,au aA]
   .rw[ai aA,ai aA,ai aA]
  rw[F] at Ha JM K;have tb:∀i b,H.m i=some b->Y.m i=some b:=λi b I=>by rwa[OY,ai (bM i b I)]
  have C:=E.step (m':=m) (D':=λb=>cm.contains b=true) Ha (sK.trans JM) (by rw[tb _ _ bf.I,bf.I]) (tb _ _ bf.hm) (λi b I _=>tb i b I) bf.ok rfl E.done rfl;show Code.wp _ _ _ _ _;have ua:Sat prog Y:=⟨S,R,Ha⟩;have fv:=ua.a6;have aS:=ub.ahh (aJI Y ua U w q H.n r k x V m C.I C.hm Du Z (by rw[OY,au rfl])) o4 S R ua.wf Mr Mr (G.sC rfl λt v aE=>(show tr _ _ by exact ca).get t v aE);rw[fv] at aS;refine wp_mono (show Code.wp prog _ _ _ _ from aS) ?_;rintro e A yw ⟨f4,br,a4,vY,⟨rfl,aJO,wN,iL⟩,Cg,rfl,S8,aJP,FY,ahi⟩;have⟨g1,g2,g3⟩:=iL _ (fG.of Cg ⟨vY,yw,FY⟩);have⟨bY,dk,eD,ju,Ll⟩:=aJJ bf.ok e1 (r:=r) (a:=x) (by rwa[q7]);rw[q7] at bY dk eD ju Ll;have aJQ:U≠w:=λe=>by
   have J:=C.I;rw[e,C.hm] at J;injection J with J;injection J with _ J;exact absurd (JC m) Vn
  have aJR:=C.step (m':=BB m r k x) (D':=λb=>(cm.push row.1).contains b=true) FY ahi (by rw[g3 _ _ C.I aJQ,C.I]) g2 g3 bY dk (λy aN aC=>by
   rw[contains_push] at aC;by_cases J:cm.contains y.1=true
   .exact bf.done y (ju.subset aN) J
   .have J:cm.contains y.1=false:=p0;rw[J] at aC;exact Ll y aN (by simpa using aC)) eD
  refine .inr ⟨rfl,a4,vY,br.a6,BB m r k x,cm.push row.1,m.hE,rfl,S8,aJP.sC (by simp[aJO]) λt v aE=>wN.get t v aE,aJR,?_⟩;have J:=left_shrinks m.es cm (sE 0 row) he;have T:((BB m r k x).es).toList.Sublist m.es.toList:=by
   rw[MU,MU,bY.bF,Z];exact ju.map _
  have aK:=aJH T (cm.push row.1);have br:(leftOf m.es (cm.push row.1)).size<FW:=VZ;omega
end
section
attribute[local irreducible] W ad
def aJS{o ev W W' x t u v}(aH:o.op=.range t x)(aa:ev x=u)(aM:(Instr.range t u).run prog W=.ok v W'):(execOp ev o).run prog W=.ok (.value v) W':=by
 simp[execOp,aH,aa,gG,aM,hj,hQ]
def aJT{o ev h x v}(aH:o.op=.move x)(aa:ev x=v):bE prog o ev h v h:=aa▸bE.move aH
def aJU{o ev h x a}(aH:o.op=.nilCheck x)(aa:ev x=.pointer (some a)):bE prog o ev h (.pointer (some a)) h:=aa▸bE.nilCheck aH aa
noncomputable def auL:Code:=match f92.body with
 | some (.seq _ (.seq c _))=>c
 | _=>.skip
abbrev S9(aL:Nat)(r:Int):List (Nat×Value):=[(1,.int .i64 r),(0,.pointer (some ⟨aL,0,none⟩))]
def auM(B:aV)(aL bt:Nat)(r:Int)(m:gm):Exit->Fr->aY->Prop:=λe f' aw=>e=.normal/\f'.al=71/\tr f'.l (S9 aL r)/\∀aD,fG (P:=prog) aw aD->B.n<=aD.n/\aD.m bt=some ⟨⟨[]⟩,iv (xf m r)⟩/\∀i b,B.m i=some b->i≠bt->aD.m i=some b
def aJV{B i g l c f r V d}(w:df<=c):∀(n b:Nat) (A:Act) (W:World),b<n->S6 B i g l c f r V d (λk=>k=b) A W ->
 Code.rounds prog OU (λe j W'=>e=.exit 0/\S6 B i g l c f r V d (λk=>k=0) j W') n A W:=by
 intro n;induction n with
 | zero=>intro b A W h;omega
 | succ n u =>
  intro b A W ak h;rw[rounds_succ];refine wp_mono (aJK w b h) ?_;rintro e j W' (⟨rfl,J⟩|⟨rfl,a,ρ,H,m,cm,q,J,t,v,s,x⟩)
  .exact⟨rfl,J⟩
  .exact u _ _ _ U ⟨a,ρ,H,m,cm,q,J,t,v,s,rfl⟩
def aJW B q g r V m(I:B.m q=some ⟨⟨[.map (some g),V]⟩,143⟩)(hm:B.m g=some ⟨⟨[]⟩,iv m⟩)(Du:df<=g)(ok:ke m):∀(a:Act) (ρ:eY) (W:World),db prog.globals.size B ρ W->gI B.n a->gZ ⟨S9 q r,71⟩ a ->
 auL.wp prog (ahj prog B ρ W (auM B q g r m)) (eU ρ a) W:=by
 intro a h5 h6 aQ Ir eS;unfold auL;conv=>arg 2;whnf
 refine wp_seq (wp_region ?_);show wpOps _ _ _ [0,1,2,3,4] _ _;have one:∀t:Nat,∀y∈[Operand.tmp t],rF prog.globals.size y:=λt y aN=>by
  rcases dI.1 aN with rfl|aN
  .trivial
  .exact JA
 refine OT (d:=some 14) (H':=B) rfl rfl rfl (aJT rfl (eS.ev (x:=.tmp 0) rfl)) rfl (one 0) Ir aQ λsG wz uG AK L=>?_;have Is:=eS.put (d:=some 14) rfl (cE q);refine OT (d:=some 15) (v:=cE q) (H':=B) rfl rfl rfl (aJU rfl (Is.ev (x:=.tmp 14) rfl)) rfl (one 14) L uG λsH MJ y6 sK K=>?_;have D6:=Is.put (d:=some 15) rfl (cE q);refine OT (d:=some 16) (v:=.pointer (some ⟨q,0+0,none⟩)) (H':=B) rfl rfl rfl (aJZ rfl (D6.ev (x:=.tmp 15) rfl)) rfl (one 15) K y6 λahf ahg Ha JM S=>?_;have S7:=D6.put (d:=some 16) rfl (.pointer (some ⟨q,0+0,none⟩));refine OT (d:=some 17) (v:=.map (some g)) (H':=B) rfl rfl rfl (aJ1 rfl (S7.ev (x:=.tmp 16) rfl) I rfl) rfl (one 16) S Ha λw z D H X=>?_;have Y:=S7.put (d:=some 17) rfl (.map (some g));generalize aSE:((((a.put (some 14) (cE q)).put (some 15) (cE q)).put (some 16) (.pointer (some ⟨q,0+0,none⟩))).put (some 17) (.map (some g)))=T at Y X|-;have bB:=((AK.trans sK).trans JM).trans H;have⟨R,Q⟩:=D.Ep none 0 (.mapIter (some (w.bJ g)) m.hE #[] m.hE) (λb h=>jh) (z.alloc (.mapIter (some (w.bJ g)) m.hE #[] m.hE)) rfl rfl rfl rfl;refine auu rfl rfl (aJS rfl ((FV D.fu Y (x:=.tmp 17) rfl trivial).trans aF) (run_range_map (P:=prog) z 140 3 38 (w.bJ g) m.es m.hE ax (((D.fa _ _ hm).map Du).1))) ?_;have Fh:=D.lt _ _ hm;have iA:=D.lt _ _ I;have he:(eU w T).put (some 18) (.pointer (some ⟨z.heap.size,0,none⟩))=eU (w.add B.n z.heap.size 0) (T.put (some 18) (.pointer (some ⟨B.n,0,none⟩))):=by
  rw[MK,acn (w.AJ _ _ _) X];simp[fJ,eY.add]
 show wpOps _ _ _ [] ((eU w T).put (some 18) _) _;rw[he];show Code.wp prog (.block 0 (.loop OU)) _ _ _;have gl:Dt B h5 h6 q g B.n r V m (λb=>(#[]:Array Nat).contains b=true) ⟨λj=>if j=B.n then none else B.m j,B.n+1⟩ (w.add B.n z.heap.size 0) (z.alloc (.mapIter (some (w.bJ g)) m.hE #[] m.hE)) m #[] m.hE :=
  {
   aQ:=R,ext:=bB.trans Q,bL:=b4 _,ag:=dN _
   I:=by show(if q=B.n then none else B.m q)=_;rwa[ai U]
   hm:=by show(if g=B.n then none else B.m g)=_;rwa[ai U]
   eT:=λi b J _=>by have:=D.lt _ _ J;show(if i=B.n then none else B.m i)=_;rwa[ai U]
   iter:=by
    rw[show(w.add B.n z.heap.size 0).bJ B.n=z.heap.size by simp[eY.add],heap_alloc_new,(w.AJ B.n z.heap.size 0 g Fh).1]
   new:=by rw[show(w.add B.n z.heap.size 0).bJ B.n=z.heap.size by simp[eY.add]];exact bB.size
   fO:=Jo
   ok:=ok,Lk:=rfl,iJ:=b4 _
   done:=λrow _ h=>p2
   S5:=rfl}
 refine wp_block (wp_mono (wp_loop_rounds _ (aJV Du _ _ _ _ (dN _) ⟨_,_,_,_,_,_,rfl,qL (Ee (hr _) X) _ aF,(Y.put (d:=some 18) rfl (.pointer (some ⟨B.n,0,none⟩))).sC rfl λt v aE=>(show tr _ _ by exact ca).get t v aE,gl,rfl⟩)) ?_);rintro e A O ⟨rfl,lG,E,KP,F,N,hI,rfl,auH,Ze,C,h0⟩;show ahj _ _ _ _ _ .normal _ _;have Wm:Sat prog KP:=⟨E,O,C.aQ⟩;have fv:=Wm.a6;have Z:F.eN=m.eN.filter (yv r):=by
  rw[<-C.S5];symm;rw[List.filter_eq_self];refine λrow aM=>C.done row aM ?_;have:=all_seen F.es N h0 (sE 0 row) (by rw[MU,C.ok.bF];exact ih.2 ⟨row,aM,rfl⟩);exact dm
 have M:F=xf m r:=by
  have⟨s,c,eN⟩:=F;have J:=C.ok.bF;have G:=C.Lk;simp only at Z J G;rw[xf,Z,J,G,<-ok.bF];rfl
 exact⟨⟨Zc q B.n r,71⟩,aY.of KP,lG,E,⟨rfl,rfl,ca,λaD x=>⟨bx C.ext.mono x.le,M▸x.up _ _ C.hm,λi b J G=>x.up _ _ (C.eT i b J G)⟩⟩,Wm.wf,rfl,Mr,Ze,by rw[fv];exact C.aQ,by rw[fv];exact C.ext⟩
noncomputable def auO:Code:=match f92.body with
 | some (.seq _ (.seq _ c))=>c
 | _=>.skip
def jD(r:Int)(v:Io):Bool:=SV r v.k
def aJ7 r v:jD r v=true↔v.k.2≠r/\v.k.1.a.ck≠r/\v.k.1.b.ck≠r:=by
 unfold jD SV;simp[cA,ed];exact⟨λh=>⟨h.1.1,h.1.2,h.2⟩,λh=>⟨⟨h.1,h.2.1⟩,h.2.2⟩⟩
def aJ8 B2(s2:Sat prog B2) c A r s l(T:B2.m c=some ⟨⟨[.map (some A),cD 13 s (eZ l)]⟩,143⟩)(S:l≠[]->B2.m s=some ⟨⟨(eZ l).flatten⟩,164⟩)(w:df<=c)(qx:l.length<=1000000000):
 W prog auO ⟨S9 c r,71⟩ (aY.of B2) (vZ prog f92 λvs aw=>vs=[]/\∃cu,∀aD,fG (P:=prog) aw aD->B2.n<=aD.n/\aD.m c=some ⟨⟨[.map (some A),cD 13 cu (eZ (l.filter (jD r)))]⟩,143⟩/\
  (l.filter (jD r)≠[]->B2.n<=cu/\aD.m cu=some ⟨⟨(eZ (l.filter (jD r))).flatten⟩,164⟩)/\∀i b,B2.m i=some b->i≠c->aD.m i=some b):=by
 have aq:=s2.aO;have cF:=T;have k8:=aq _ _ cF;rw[jO] at cF;have R:(eZ l).length=l.length:=Ms;unfold auO;conv=>arg 2;whnf
 unfold S9;refine uU ?_;apply W.seq;refine ad1 ?_;refine W.hz (X:=Nat×Nat) (λx=>[(0,cE c),(1,bm r),(36,.slice (if eZ l=[] then none else cV s) l.length (if eZ l=[] then 0 else dF 13)),(37,bm (l.length:Int)),(38,bm (x.1:Int)),(6,cD 13 x.2 (eZ ((l.take x.1).filter (jD r))))])
  (λx B=>x.1<=l.length/\S3 B2 (jD r) l x.1 x.2 B) (λx=>l.length-x.1)
  (λaD a=>⟨(0,0),by(rw[<-R];exact ca),⟨dG _,a.up,a.le,λak=>by simp at ak⟩⟩) ?_
 rintro⟨i,cu⟩ B fo z ⟨ag,bd⟩;dsimp only at ag bd|-;by_cases bs:i<l.length
 .have⟨v,aE⟩:=cR l i bs;have C:l≠[]:=abc;have G:eZ l≠[]:=λe=>C (ahc.1 e);have aM:=bd.up _ _ (S C);have zj:=z.aO _ _ aM;have hle:0+i*13+13<=(eZ l).flatten.length:=abY;have ki:=aur (jD r) aE;have qI:((l.take i).filter (jD r)).length<=1000000000:=bx (Gu _ _) ami;have f:=aJ7 r v;rw[ai G,ai G];by_cases J:v.k.2=r
  .rw[ai (by rw[f];simp[J]),l2] at ki;repeat(first|refine hL ?_|refine iR ?_|refine er ?_|refine Nd ?_|refine n4 ?_|refine uL ?_|refine jj ?_|refine q0 ?_|refine hW ?_|refine adW ?_|refine oR ?_)
   exact UL
  by_cases D:v.k.1.a.ck=r
  .rw[ai (by rw[f];simp[D]),l2] at ki;repeat(first|refine hL ?_|refine iR ?_|refine er ?_|refine Nd ?_|refine n4 ?_|refine vx ?_|refine jj ?_|refine q0 ?_|refine hW ?_|refine adW ?_|refine oR ?_)
   exact UL
  by_cases E:v.k.1.b.ck=r
  .rw[ai (by rw[f];simp[E]),l2] at ki;repeat(first|refine hL ?_|refine iR ?_|refine er ?_|refine Nd ?_|refine n4 ?_|refine tz ?_|refine jj ?_|refine CF ?_)
   exact UL
  rw[au (f.2 ⟨J,D,E⟩)] at ki;repeat(first|refine iR ?_|refine er ?_|refine Nd ?_|refine gP ?_|refine na ?_|refine tz ?_|refine jj ?_|refine vz ?_|refine kW ?_|apply ad.Sw (v:=OQ v) (L:=eZ ((l.take i).filter (jD r)));(iterate 6 rfl);exact λIp M=>⟨M.bJ 1 (bo:(1:Nat)<2),λak=>(have ak:(l.take i).filter (jD r)≠[]:=λe=>ak qH;⟨bx s2.rw (bd.row ak).1,M.up _ _ (bd.row ak).2⟩)⟩;exact S1 _;rfl;rfl;(rw[show(eZ ((l.take i).filter (jD r))).length=_ from fI ..];omega);(rw[show(eZ ((l.take i).filter (jD r))).length=_ from fI ..];omega);intro gL u GP hJ Z s3 Y V N Q)
  have AA:=bd.push aq ki u.up u.aO u.le Y V N Q;exact ajR
 .have O:i=l.length:=U;subst O;rw[mv] at *;have F:=bd.up _ _ cF;rw[jO];repeat(first|refine hL ?_|refine nz ?_|refine c8 ?_|refine Nf ?_|refine lC ?_|apply ad.gi;rfl;rfl;rfl;exact F;exact z.aO _ _ F;exact w;exact iu;iterate 3 rfl)
  refine sx [] .nil ⟨rfl,cu,λaD a=>⟨bx bd.le a.le,?_,λak=>?_,λj b I aA=>a.up _ _ ?_⟩⟩
  .rw[jO];exact a.up _ _ (by show(if c=c then some _ else B.m c)=_;rw[au rfl];rfl)
  .have J:=bd.row (by rw[mv];exact ak);rw[mv] at J;refine⟨J.1,a.up _ _ ?_⟩;show(if cu=c then some _ else B.m cu)=_;rw[ai U];exact J.2
  .show(if j=c then some _ else B.m j)=_;rw[ai aA];exact bd.up _ _ I
def ahl(h:aV)(aL bt:Nat)(m':gm)(cp:List Io):aV :=
 ⟨λi=>if i=aL then some ⟨⟨[.map (some bt),cD 13 h.n (eZ cp)]⟩,143⟩ else if i=bt then some ⟨⟨[]⟩,iv m'⟩ else if i=h.n then(if cp=[] then none else some ⟨⟨(eZ cp).flatten⟩,164⟩) else h.m i,h.n+1⟩
def aJ9 a r(L:List (List Value)):sub a (cD 13 r L)=cD 13 (a r) L:=by
 cases L<;>simp[cD]
def aKa h N C z s r(o:j1 h N C z s) F l(ao:l.map (·.k)=s.w)(cF:h.m C=some ⟨⟨[.map (some z),cD 13 F (eZ l)]⟩,143⟩)(R:l≠[]->N<=F/\h.m F=some ⟨⟨(eZ l).flatten⟩,164⟩)(hw:s.w.length<=1000000000):
 bc prog 92 ⟨[.pointer (some ⟨C,0,none⟩),.int .i64 r]⟩ h (.tuple #[]) (ahl h C z (xf (s.m.del r) r) (l.filter (jD r))):=by
 have bM:=o.ne;have L:=o.hm;have J8:=bx o.rw o.FT;have qx:l.length<=1000000000:=by rw[<-ao] at hw;simpa using hw
 refine bc.introN (c:=(f92.body.getD .skip)) func92 ax ntmps92 ax (λM=>⟨hr _,aF,λi b I=>?_⟩)
  (Q:=λvs aw=>vs=[]/\∃B,∀A,fG (P:=prog) aw A->h.n<=A.n/\A.m C=bS [.map (some z),cD 13 B (eZ (l.filter (jD r)))] 143/\A.m z=some ⟨⟨[]⟩,iv (xf (s.m.del r) r)⟩/\(l.filter (jD r)≠[]->h.n<=B/\A.m B=bS ((eZ (l.filter (jD r))).flatten) 164)/\∀i b,h.m i=some b->i≠C->i≠z->A.m i=some b)
  (λvs aw w X s' aG=>?_) (λM=>?_)
 .have aq:=M.aO;have k8:=aq _ _ cF;have S:=aq _ _ L;have up:∀{u:Value},bw h.n u->bw (h.n+1) u:=λhu=>hc (hr _) _ hu;show i<h.n+1/\∀u∈b.cells,bw (h.n+1) u;have I:(if i=C then bS [.map (some z),cD 13 h.n (eZ (l.filter (jD r)))] 143 else if i=z then some ⟨⟨[]⟩,iv (xf (s.m.del r) r)⟩ else if i=h.n then(if l.filter (jD r)=[] then none else bS ((eZ (l.filter (jD r))).flatten) 164) else h.m i)=some b:=I;split at I
  .rename_i e;cases I;refine⟨U,λu hu=>?_⟩;simp[uo,dI,jP,j6] at hu;rcases hu with rfl|rfl
   .exact jf
   .rw[jO];split<;>simp
  split at I
  .rename_i e;cases I;exact⟨U,λu hu=>by simp at hu⟩
  split at I
  .rename_i e;split at I
   .cases I
   .rename_i ak;injection I with I;subst I;subst e;refine⟨dN _,λu hu=>up ?_⟩;have T:l≠[]:=λe=>ak qH;refine M.dP _ _ (R T).2 u ?_;simp only[uo,Ux,eZ,ih] at hu|-;have⟨c,⟨v,aE,aB⟩,D⟩:=hu;exact⟨c,⟨v,(B1.1 aE).1,aB⟩,D⟩
  .exact⟨Uw (aq _ _ I),λu hu=>up (M.dP _ _ I u hu)⟩
 .obtain⟨rfl,B,eL⟩:=aG;have⟨cB,Z,Y,O,NS⟩:=eL _ (fG.of w s');have aq:=X.aO;have k8:=aq _ _ cF;have S:=aq _ _ L;have iG:∀i,i<h.n->(λi=>if i=h.n then B else i) i=i:=λi ag=>by show(if i=h.n then B else i)=i;rw[ai U]
  have Ta:∀i b,(ahl h C z (xf (s.m.del r) r) (l.filter (jD r))).m i=some b->i=h.n->l.filter (jD r)≠[]:=λi b I ag e=>by
   subst ag;have I:(if h.n=C then bS [.map (some z),cD 13 h.n (eZ (l.filter (jD r)))] 143 else if h.n=z then some ⟨⟨[]⟩,iv (xf (s.m.del r) r)⟩ else if h.n=h.n then(if l.filter (jD r)=[] then none else bS ((eZ (l.filter (jD r))).flatten) 164) else h.m h.n)=some b:=I;rw[ai U,ai U,au rfl,au e] at I;cases I
  have E2:∀i b,(ahl h C z (xf (s.m.del r) r) (l.filter (jD r))).m i=some b->i=h.n\/i<h.n:=λi b I=>by
   have I:(if i=C then bS [.map (some z),cD 13 h.n (eZ (l.filter (jD r)))] 143 else if i=z then some ⟨⟨[]⟩,iv (xf (s.m.del r) r)⟩ else if i=h.n then(if l.filter (jD r)=[] then none else bS ((eZ (l.filter (jD r))).flatten) 164) else h.m i)=some b:=I;split at I
   .exact .inr U
   split at I
   .exact .inr U
   split at I
   .exact .inl h3
   .exact .inr (aq _ _ I)
  have dB:∀{b:cd},(∀u∈b.cells,bw h.n u)->oo (λi=>if i=h.n then B else i) b=b:=λ{b} I=>by
   have⟨⟨cs⟩,e⟩:=b;unfold oo;congr 1;rw[j5 λu hu=>Q9 iG u (I u hu)];simp
  refine⟨λi=>if i=h.n then B else i,⟨iG,λi b I=>?_,λi b I ag hw=>?_,λi j b c ag aA e=>?_,by simp[fp]⟩⟩
  .have I:(if i=C then bS [.map (some z),cD 13 h.n (eZ (l.filter (jD r)))] 143 else if i=z then some ⟨⟨[]⟩,iv (xf (s.m.del r) r)⟩ else if i=h.n then(if l.filter (jD r)=[] then none else bS ((eZ (l.filter (jD r))).flatten) 164) else h.m i)=some b:=I;split at I
   .rename_i e;injection I with I;subst I;subst e;show aw.a6.m (if i=h.n then B else i)=_;rw[ai U,Z];simp only[oo,so,gg,oH,az1,aJ9,ai (show¬z=h.n by omega),kB]
   split at I
   .rename_i e;injection I with I;subst I;subst e;show aw.a6.m (if i=h.n then B else i)=_;rw[ai U,Y];simp[oo]
   split at I
   .rename_i e;split at I
    .cases I
    .rename_i ak;injection I with I;subst I;show aw.a6.m (if i=h.n then B else i)=_;rw[au e,(O ak).2,dB];intro u hu;have T:l≠[]:=λe=>ak qH;refine X.dP _ _ (R T).2 u ?_;simp only[uo,Ux,eZ,ih] at hu|-;have⟨c,⟨v,aE,aB⟩,D⟩:=hu;exact⟨c,⟨v,(B1.1 aE).1,aB⟩,D⟩
   .show aw.a6.m (if i=h.n then B else i)=_;rw[ai h3,dB λu hu=>X.dP _ _ I u hu];exact NS _ _ I h3 h3
  .rcases E2 i b I with e|e
   .show df<=if i=h.n then B else i
    rw[au e];exact bx hw (O (Ta i b I e)).1
   .exact U
  .have e:=e;rcases E2 i b ag with ba|ba<;>rcases E2 j c aA with a1|a1
   .exact U
   .rw[au ba,ai U] at e;have:=(O (Ta i b ag ba)).1;omega
   .rw[au a1,ai U] at e;have:=(O (Ta j c aA a1)).1;omega
   .rw[ai U,ai U] at e;exact e
 .have aq:=M.aO;have k8:=aq _ _ cF;have S:=aq _ _ L;conv=>arg 2;whnf
  refine ub.seq (K':=λe f' aw=>e=.normal/\f'.al=71/\tr f'.l (S9 C r)/\∀A,fG (P:=prog) aw A->h.n<=A.n/\A.m z=some ⟨⟨[]⟩,iv (s.m.del r)⟩/\∀i b,h.m i=some b->i≠z->A.m i=some b) (ub.ahh ?_) (λf1 J ⟨_,aKb,zV,bW⟩=>?_) (λe f' aw he ⟨J,_⟩=>absurd J he)
  .repeat(first|apply ad.delete;(iterate 4 rfl);exact L;exact S;exact J8;exact o.ok.bF|refine aog ?_|refine nz ?_|refine lB ?_)
   refine⟨rfl,rfl,ca,λA a=>⟨a.le,a.up _ _ ?_,λi b ag ak=>a.up _ _ ?_⟩⟩
   .show(if z=z then some _ else h.m z)=_;rw[au rfl]
   .show(if i=z then some _ else h.m i)=_;rwa[ai ak]
  .refine ub.auP aKb zV λdA aKc s1=>?_;have⟨g1,g2,g3⟩:=bW _ aKc;refine ub.seq (K':=auM dA C z r (s.m.del r)) ?_ (λf2 E ⟨_,aKd,ahn,kM⟩=>?_) (λe f' aw he ⟨J,_⟩=>absurd J he)
   .intro a ρ W w aH b g;rw[s1.a6] at aH b|-;exact aJW dA C z r _ (s.m.del r) (g3 _ _ cF bM.symm) g2 J8 (o.ok.del r) a ρ W aH b g
   .refine ub.auP aKd ahn λB2 gF s2=>ub.ahh ?_;have⟨bY,dk,eD⟩:=kM _ gF;have V:∀i b,h.m i=some b->i≠z->B2.m i=some b:=λi b J E=>eD _ _ (g3 _ _ J E) E;have It:l≠[]->F≠z:=λak e=>by
     have J:=(R ak).2;rw[e,L] at J;injection J with J;injection J with _ J;exact absurd (JC s.m) Vn
    have:=aJ8 B2 s2 C z r F l (V _ _ cF bM.symm) (λak=>V _ _ (R ak).2 (It ak)) (bx o.rw o.fL) qx;refine W.mono this ?_;have G:∀(vs:List Value) (aw:aY),(vs=[]/\∃B,∀A,fG (P:=prog) aw A->B2.n<=A.n/\A.m C=bS [.map (some z),cD 13 B (eZ (l.filter (jD r)))] 143/\(l.filter (jD r)≠[]->B2.n<=B/\A.m B=bS ((eZ (l.filter (jD r))).flatten) 164)/\∀i b,B2.m i=some b->i≠C->A.m i=some b) ->
     (vs=[]/\∃B,∀A,fG (P:=prog) aw A->h.n<=A.n/\A.m C=bS [.map (some z),cD 13 B (eZ (l.filter (jD r)))] 143/\A.m z=some ⟨⟨[]⟩,iv (xf (s.m.del r) r)⟩/\(l.filter (jD r)≠[]->h.n<=B/\A.m B=bS ((eZ (l.filter (jD r))).flatten) 164)/\∀i b,h.m i=some b->i≠C->i≠z->A.m i=some b):=by
     rintro vs aw ⟨rfl,B,aa⟩;refine⟨rfl,B,λA a=>?_⟩;have⟨rh,ri,Zf,Tb⟩:=aa A a;exact⟨U,ri,Tb _ _ dk bM,λak=>⟨by have:=(Zf ak).1;omega,(Zf ak).2⟩,λi b cB Z Y=>Tb _ _ (V _ _ cB Y) Z⟩
    intro e f aw aj;cases e with
    | ret=>have⟨vs,J,E⟩:=aj;exact⟨vs,J,G _ _ E⟩
    | normal=>have⟨vs,J,E⟩:=aj;exact⟨vs,J,G _ _ E⟩
    | _=>exact aj.elim
def OZ h N a c s r(o:j1 h N a c s)(hw:s.w.length<=1000000000):dw prog 92 [.pointer (some ⟨a,0,none⟩),.int .i64 r] h (λv aw=>v=.tuple #[]/\j1 aw N a c (kz s r)/\OR a c h aw):=by
 have⟨g,l,f,e,j⟩:=o.row;have u:=o.fL;refine(bc.ex (aKa h N a c s r o g l f e j hw)).mono ?_;rintro v aw d ⟨rfl,rfl⟩;have t:=d.aO _ _ e;have q:=d.aO _ _ o.hm;refine⟨rfl,⟨o.rw,o.fL,o.FT,?_,(o.ok.del r).drop r,h.n,l.filter (jD r),?_,?_,λak=>⟨U,?_⟩⟩,⟨hr _,λi b I J k=>?_⟩⟩
 .show(if c=a then _ else if c=c then some _ else _)=_;rw[ai o.ne,au rfl];rfl
 .show _=(s.w.filter (SV r));rw[<-f,List.filter_map];rfl
 .show(if a=a then some _ else _)=_;rw[au rfl]
 .show(if h.n=a then _ else if h.n=c then some _ else if h.n=h.n then _ else _)=_;rw[ai U,ai U,au rfl,ai ak]
 .have:=d.aO _ _ I;show(if i=a then _ else if i=c then some _ else if i=h.n then _ else h.m i)=_;rwa[ai J,ai k,ai U]
end
end Go.Proofs.YtplleokmejppjaaGreatDoor
