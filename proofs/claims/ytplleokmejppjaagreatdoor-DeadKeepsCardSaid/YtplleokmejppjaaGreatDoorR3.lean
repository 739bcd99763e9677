/- Contracts of functions that the law reaches -/
import Derived.Test.YtplleokmejppjaaGreatDoorR2
set_option linter.all false
set_option maxHeartbeats 9999999
namespace Go.Proofs.YtplleokmejppjaaGreatDoor
open Go.Proofs.Tryz
open Go.AH
attribute[local irreducible] W ad
def eI(x:cO):List ho:=if x.op=28 then x.args else if x.op=29 then x.a::x.args else if e6 x.op=true\/x.op=27 then[x.a,x.b] else if 23<=x.op/\x.op<=25 then[] else[x.a]
def lF(p:fX)(r:Int):Option Int:=if 0<=r then(p.funcs[r.toNat]?).map (·.params) else none
def k0(p:fX)(f:dp)(x:cO):Bool :=
 if x.op=22\/x.op=26 then decide (0<=x.dst)&&NN x.size
 else if x.op=27 then x.dst==-1&&NN x.size
 else if x.op=23 then decide (0<=x.dst)&&decide (0<=x.ref)&&decide (x.ref<p.globals.length)
 else if x.op=24 then decide (0<=x.dst)&&decide (0<=x.ref)&&decide (x.ref<f.bZ.length)
 else if x.op=25 then decide (0<=x.dst)&&decide (0<=x.ref)&&decide (x.ref<p.funcs.length)
 else if x.op=28 then lF p x.ref==some (x.args.length:Int)
 else if x.op=29 then decide (x.args.length<=6)
 else if x.op=30 then x.dst==-1
 else decide (0<=x.dst)
def iH(p:fX)(f:dp)(x:cO):Bool:=decide (1<=x.op)&&decide (x.op<=30)&&zJ f.ae (eI x)&&decide (-1<=x.dst)&&decide (x.dst<f.ae)&&k0 p f x
def pk{h a H}(c:sh h true a H)(d:∀i b,h.bD.m i=some b->i<h.bD.n):∀i b,h.bD.m i=some b->H.m i=some b:=λi b I=>by rwa[c.b rfl i (d i b I)]
def Ti{h:aY}{H k l e}(hm:H.m (h.π k)=some ⟨⟨fN l⟩,e⟩):c0 H (some ⟨h.π k,0,none⟩) 2 l kL :=
 ⟨λi a aJ=>⟨h.π k,0,fN l,e,rfl,hm,akh,adR aJ⟩⟩
structure Dx(h:aV)(aR bR:Nat)(f:dp)(dS:List Value)(fk:TypeId)(bj:Option Addr)(aW:Nat)(a8:Option Addr)(aT:Nat)(dr:Option Addr)(bn:Nat):Prop where
 m:h.m aR=some ⟨⟨dS⟩,fk⟩
 c:∀j v,(dj f bj aW a8 aT dr bn)[j]?=some v->dS[bR+j]?=some v
 gK:c0 h a8 1 f.bZ CP
 bl:c0 h dr 9 f.blocks (yb h)
structure nH(h:aV)(aU:Nat)(p:fX)(eV:TypeId)(bj:Option Addr)(aW:Nat)(a8:Option Addr)(aT:Nat):Prop where
 m:h.m aU=some ⟨⟨hd p bj aW a8 aT⟩,eV⟩
 cJ:c0 h bj 6 p.funcs (Kc h)
 gs:c0 h a8 4 p.globals (CM h)
def aKW p f x D N Q d1 O d2 aR bR dS fk L X G Y M R A c h(bh:nH h D p N Q d1 O d2)(ar:Dx h aR bR f dS fk L X G Y M R)(ao:c0 h A 2 x.args kL)(ak:x.args.length<=1000000000000000)(mG:x.op=28):
 bc prog 28 ⟨[.pointer (some ⟨D,0,none⟩),.pointer (some ⟨aR,bR,none⟩),.agg ⟨cL x A c⟩]⟩ h (.bool (iH p f x)) h:=by
 refine bc.aO λaq=>?_;have CB:=aq _ _ bh.m;have n7:=aq _ _ ar.m;refine bc.jT func28 ntmps28 ?_;conv=>arg 2;whnf
 have z:k0 p f x=(lF p x.ref==some (x.args.length:Int)):=by
  rw[k0,ai U,ai U,ai U,ai U,ai U,au mG]
 have B:eI x=x.args:=by rw[eI,au mG]
 by_cases aM:0<=x.ref/\x.ref<p.funcs.length
 .have⟨g,bf⟩:=cR p.funcs x.ref.toNat U;obtain⟨fL,go,Z,ge,rfl,C,n5,F⟩:=bh.cJ.get _ g bf;have E:=aq _ _ C;have⟨T,bY,S,dk,V,eD,s,_,_⟩:=F;have u:=ka (j:=1) s rfl;have i:lF p x.ref=some g.params:=by rw[lF,au aM.1,bf];rfl
  repeat'(first|refine aph ?_|refine anT ?_|(apply ad.dv;rfl;rfl;rfl;first|exact ar.m;exact n7;(first|exact ar.c 3 _ rfl|exact ar.c 4 _ rfl)|exact bh.m;exact CB;rfl|exact C;exact E;exact u)|refine apj ?_|refine WU ?_|refine pA ?_|refine zr ?_|refine pz ?_|refine CC ?_|(refine c7 ?_ ?_)<;>intro _)
  all_goals refine cf _ (dt rfl) ⟨rfl,?_⟩
  all_goals simp[fp,pZ,iH,B,z,i]
  all_goals simp[mV,Au] at *
  all_goals simp[*]
  all_goals first|omega|rw[pj];simp[cA,ed,uq];omega
 .have i:lF p x.ref=none:=by
   unfold lF;split
   .rw[wh U];rfl
   .rfl
  repeat'(first|refine aph ?_|refine anT ?_|refine aoo ?_|refine WU ?_|refine pA ?_|refine zr ?_|refine pz ?_|refine CC ?_|(refine c7 ?_ ?_)<;>intro _)
  all_goals refine cf _ (dt rfl) ⟨rfl,?_⟩
  all_goals simp[fp,pZ,iH,B,z,i]
  all_goals simp[mV,Au] at *
  all_goals simp[*]
  all_goals first|omega|rw[pj];simp[cA,ed,uq];omega
def Lv n d b a e ae l A c h(g:n=l.length)(i:h.m d=some ⟨⟨a⟩,e⟩)(f:a[b+3]?=some (.int .i64 ae))(j:c0 h A 2 l kL)(ak:l.length<=1000000000000000):
 bc prog 45 ⟨[.pointer (some ⟨d,b,none⟩),.slice A n c]⟩ h (.bool (zJ ae l)) h:=by
 subst g;exact anU d b a e ae l A c h i f j ak
def aKY{h x A c}(h0:x.op=29)(ak:x.args.length<=1000000000)(f:c0 h.bD A 2 x.args kL)(e:∀i b,h.bD.m i=some b->i<h.bD.n)H(d:sh h true [] H):bc prog 46 ⟨[.agg ⟨cL x A c⟩]⟩ H (.slice (some ⟨h.π h.k,0,none⟩) (1+x.args.length) (Oe x)) (H.push ⟨⟨fN (x.a::x.args)⟩,38⟩):=by
 have:=arA x A c h0 ak H (f.mono (pk d e) λ_ _ h=>h);rw[d.n] at this;exact dm
def aKZ{h x A c}(h0:e6 x.op=true\/x.op=27)H(d:sh h true [] H):bc prog 46 ⟨[.agg ⟨cL x A c⟩]⟩ H (.slice (some ⟨h.π h.k,0,none⟩) 2 2) (H.push ⟨⟨fN [x.a,x.b]⟩,38⟩):=by
 have:=arw x A c h0 H;rw[d.n] at this;exact dm
def aK0{h x A c}(h0:e6 x.op=false)(J:¬(23<=x.op/\x.op<=25))(d:¬(27<=x.op/\x.op<=29))H(b:sh h true [] H):bc prog 46 ⟨[.agg ⟨cL x A c⟩]⟩ H (.slice (some ⟨h.π h.k,0,none⟩) 1 1) (H.push ⟨⟨fN [x.a]⟩,38⟩):=by
 have:=arx x A c h0 J d H;rw[b.n] at this;exact dm
def aK1 p f x w E G d1 F d2 j i v u C N B O D L A c h(bh:nH h w p E G d1 F d2)(ar:Dx h j i f v u C N B O D L)(M:c0 h A 2 x.args kL)(ak:x.args.length<=1000000000)(s:x.op=29):
 bc prog 28 ⟨[.pointer (some ⟨w,0,none⟩),.pointer (some ⟨j,i,none⟩),.agg ⟨cL x A c⟩]⟩ h (.bool (iH p f x)) h:=by
 refine bc.aO λaq=>?_;have n7:=aq _ _ ar.m;have z:eI x=x.a::x.args:=by rw[eI,ai U,au s]
 refine bc.jT func28 ntmps28 ?_;conv=>arg 2;whnf
 repeat'(first|apply ad.F2 true [];rfl;rfl;rfl;exact aKY s ak M aq|apply ad.lT true [1];rfl;rfl;rfl;exact λH b7=>Lv _ j i v u f.ae (x.a::x.args) _ _ H (Mf _ _) (pk b7 aq _ _ ar.m) (ar.c 3 _ rfl) (Ti ((b7.l 1 rfl (dM rfl)).trans rfl)) jf;exact hS|refine adq ?_|refine WU ?_|refine pA ?_|refine zr ?_|refine pz ?_|refine CC ?_|(refine c7 ?_ ?_)<;>intro _)
 all_goals refine cf _ (dt rfl) ⟨rfl,?_⟩
 all_goals simp[fp,pZ,iH,z,k0]
 all_goals(try simp[mV,Au,Aq,DX,ge_iff_le] at *)
 all_goals(repeat rw[ai U])
 all_goals(try rw[au U])
 all_goals(rw[pj];simp[cA,ed,Mg,Uy,and_false,false_iff,iff_true,nN,reduceCtorEq, *])
 all_goals first
  | done
  | omega
  | exact Vy
  | (constructor<;>intro b5<;>omega)
  | (simp[zJ]<;>omega)
  | trace_state
def aK2 p f x v E G d1 F d2 j i u s C M B N D L A c h(bh:nH h v p E G d1 F d2)(ar:Dx h j i f u s C M B N D L)(O:c0 h A 2 x.args kL)(ak:x.args.length<=1000000000)(ab:e6 x.op=true\/x.op=27):
 bc prog 28 ⟨[.pointer (some ⟨v,0,none⟩),.pointer (some ⟨j,i,none⟩),.agg ⟨cL x A c⟩]⟩ h (.bool (iH p f x)) h:=by
 refine bc.aO λaq=>?_;have n7:=aq _ _ ar.m;have w:¬x.op=28/\¬x.op=29:=ako;have aH:3<=x.op/\x.op<=21\/x.op=27:=ako;have z:eI x=[x.a,x.b]:=by rw[eI,ai w.1,ai w.2,au ab]
 refine bc.jT func28 ntmps28 ?_;conv=>arg 2;whnf
 repeat'(first|apply ad.F2 true [];rfl;rfl;rfl;exact aKZ ab|apply ad.lT true [1];rfl;rfl;rfl;exact λH b7=>Lv _ j i u s f.ae [x.a,x.b] _ _ H rfl (pk b7 aq _ _ ar.m) (ar.c 3 _ rfl) (Ti ((b7.l 1 rfl (dM rfl)).trans rfl)) (dM rfl);exact hS|refine apc ?_|refine adq ?_|refine aoP ?_|refine pA ?_|refine zr ?_|refine pz ?_|refine CC ?_|(refine c7 ?_ ?_)<;>intro _)
 all_goals refine cf _ (dt rfl) ⟨rfl,?_⟩
 all_goals simp[fp,pZ,iH,z,k0]
 all_goals(try simp[mV,Au,Aq,DX,ge_iff_le] at *)
 all_goals(repeat rw[ai U])
 all_goals(try rw[au U])
 all_goals(rw[pj];simp[cA,ed,uq,P0,Mg,Uy,and_false,false_iff,iff_true,nN,reduceCtorEq, *])
 all_goals first
  | done
  | omega
  | exact Vy
  | (constructor<;>intro b5<;>omega)
  | (simp[zJ]<;>omega)
  | trace_state
def aK3 p f x v D F d1 E d2 j i u s B L z M C G A c h(bh:nH h v p D F d1 E d2)(ar:Dx h j i f u s B L z M C G)(O:c0 h A 2 x.args kL)(ak:x.args.length<=1000000000)(J:e6 x.op=false)(ab:¬(23<=x.op/\x.op<=25))(N:¬(27<=x.op/\x.op<=29)):
 bc prog 28 ⟨[.pointer (some ⟨v,0,none⟩),.pointer (some ⟨j,i,none⟩),.agg ⟨cL x A c⟩]⟩ h (.bool (iH p f x)) h:=by
 refine bc.aO λaq=>?_;have n7:=aq _ _ ar.m;have aH:¬(3<=x.op/\x.op<=21):=by simp only[e6,I7,yE] at J;omega
 have w:eI x=[x.a]:=by unfold eI;rw[ai U,ai U,ai (by rw[J];simp;omega),ai ab]
 refine bc.jT func28 ntmps28 ?_;conv=>arg 2;whnf
 repeat'(first|refine apc ?_|refine adq ?_|apply ad.F2 true [];rfl;rfl;rfl;exact aK0 J ab N|apply ad.lT true [1];rfl;rfl;rfl;exact λH b7=>Lv _ j i u s f.ae [x.a] _ _ H rfl (pk b7 aq _ _ ar.m) (ar.c 3 _ rfl) (Ti ((b7.l 1 rfl (dM rfl)).trans rfl)) (dM rfl);exact hS|refine aoP ?_|refine vx ?_|refine hL ?_|refine zr ?_|refine pz ?_|refine CC ?_|(refine c7 ?_ ?_)<;>intro _)
 all_goals refine cf _ (dt rfl) ⟨rfl,?_⟩
 all_goals simp only[fp,pZ,iH,w,k0]
 all_goals(try simp only[mV,Au,Aq,DX,ge_iff_le,gt_iff_lt] at *)
 all_goals(repeat rw[ai U])
 all_goals(try rw[au U])
 all_goals(rw[pj];simp only[cA,ed,uq,P0,Mg,Uy,and_false,false_iff,nN,reduceCtorEq, *])
 all_goals first
  | done
  | omega
  | exact Vy
  | (constructor<;>intro b5<;>omega)
  | (simp[zJ]<;>omega)
  | trace_state
def aK4 p f x v D F d1 E d2 j i u s B L z M C G A c h(bh:nH h v p D F d1 E d2)(ar:Dx h j i f u s B L z M C G)(N:c0 h A 2 x.args kL)(ak:x.args.length<=1000000000)(J:23<=x.op/\x.op<=25):
 bc prog 28 ⟨[.pointer (some ⟨v,0,none⟩),.pointer (some ⟨j,i,none⟩),.agg ⟨cL x A c⟩]⟩ h (.bool (iH p f x)) h:=by
 refine bc.aO λaq=>?_;have CB:=aq _ _ bh.m;have n7:=aq _ _ ar.m;have aS:e6 x.op=false:=by rw[e6,Bool.eq_false_iff];simp;omega
 have w:eI x=[]:=by unfold eI;rw[ai U,ai U,ai (by rw[aS];simp;omega),au J]
 refine bc.still (c:=(f28.body.getD .skip)) func28 ax ntmps28 ax aF ?_;conv=>arg 2;whnf
 repeat'(first|apply ad.lT true [];rfl;rfl;rfl;exact λH b7=>Lv _ j i u s f.ae [] _ _ H rfl (pk b7 aq _ _ ar.m) (ar.c 3 _ rfl) c0.nil (dM rfl);exact hS|apply ad.wO;rfl;rfl;rfl;exact λH=>ary x A c J H;exact hS|refine aoo ?_|refine WU ?_|refine pA ?_|refine zr ?_|refine pz ?_|refine CC ?_|(refine c7 ?_ ?_)<;>intro _)
 all_goals refine cf _ (.cons (.tmp rfl) .nil) ⟨rfl,?_⟩
 all_goals simp[fp,pZ,iH,w,k0]
 all_goals(try simp[Aq,DX,ge_iff_le] at *)
 all_goals(repeat rw[ai U])
 all_goals(try rw[au U])
 all_goals(rw[pj];simp[cA,ed,P0,Mg,false_iff,true_iff,iff_true,nN,reduceCtorEq, *])
 all_goals first
  | done
  | omega
  | exact Vy
  | (constructor<;>intro b5<;>omega)
  | (simp[zJ]<;>omega)
  | trace_state
end Go.Proofs.YtplleokmejppjaaGreatDoor
