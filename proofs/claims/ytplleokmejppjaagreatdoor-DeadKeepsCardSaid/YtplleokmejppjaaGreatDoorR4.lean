/- Contracts of functions that the law reaches -/
import Derived.Test.YtplleokmejppjaaGreatDoorR3
set_option linter.all false
set_option maxHeartbeats 9999999
namespace Go.Proofs.YtplleokmejppjaaGreatDoor
open Go.Proofs.Tryz
open Go.AH
attribute[local irreducible] W ad
def e2(t:kt):List ho:=if t.bp=2 then[t.a,t.b] else if t.bp=3 then[t.a] else[]
def di(t:kt):List Int:=if t.bp=1 then[t.goto] else if t.bp=2 then[t.goto,t.dx] else[]
def tJ(cP:Nat)(l:List Int):Bool:=l.all λn=>decide (0<=n)&&decide (n<cP)
def avB a n l:tJ a (n::l)=(decide (0<=n)&&decide (n<a)&&tJ a l):=rfl
def lU(f:dp)(t:kt):Bool:=decide (1<=t.bp)&&decide (t.bp<=3)&&zJ f.ae (e2 t)&&(!(t.bp==2)||(decide (16<=t.op)&&decide (t.op<=21)))&&tJ f.blocks.length (di t)
def aLP{h t}(aj:t.bp=1)H(a:sh h true [] H):bc prog 49 ⟨[.agg ⟨kr t⟩]⟩ H (.slice (some ⟨h.π h.k,0,none⟩) 1 1) (H.push ⟨⟨[.int .i64 t.goto]⟩,3⟩):=by
 have:=arp t aj H;rw[a.n] at this;exact dm
def aLQ{h t}(aj:t.bp=2)H(a:sh h true [] H):bc prog 49 ⟨[.agg ⟨kr t⟩]⟩ H (.slice (some ⟨h.π h.k,0,none⟩) 2 2) (H.push ⟨⟨[.int .i64 t.goto,.int .i64 t.dx]⟩,3⟩):=by
 have:=arq t aj H;rw[a.n] at this;exact dm
def aLR{h t}(aj:t.bp=2)H(c:sh h true [] H):bc prog 48 ⟨[.agg ⟨kr t⟩]⟩ H (.slice (some ⟨h.π h.k,0,none⟩) 2 2) (H.push ⟨⟨fN [t.a,t.b]⟩,38⟩):=by
 have:=art t aj H;rw[c.n] at this;exact dm
def aLS{h t}(aj:t.bp=3)H(b:sh h true [] H):bc prog 48 ⟨[.agg ⟨kr t⟩]⟩ H (.slice (some ⟨h.π h.k,0,none⟩) 1 1) (H.push ⟨⟨fN [t.a]⟩,38⟩):=by
 have:=aru t aj H;rw[b.n] at this;exact dm
def aLT f t(aj:t.bp=2) u c s A C D h(bz:h.m u=some ⟨⟨s⟩,A⟩)(nB:s[c+3]?=some (.int .i64 f.ae))(xZ:s[c+5]?=some (.slice C f.blocks.length D))(E:f.blocks.length<=1000000000000000):
 bc prog 29 ⟨[.pointer (some ⟨u,c,none⟩),.agg ⟨kr t⟩]⟩ h (.bool (lU f t)) h:=by
 refine bc.aO λaq=>?_;have gh:=aq _ _ bz;have j:e2 t=[t.a,t.b]:=by rw[e2,au aj]
 have lQ:di t=[t.goto,t.dx]:=by rw[di,ai U,au aj]
 refine bc.jT func29 ntmps29 ?_;conv=>arg 2;whnf
 repeat'(first|apply ad.F2 true [];rfl;rfl;rfl;exact aLR aj|apply ad.lT true [1];rfl;rfl;rfl;exact λH b7=>Lv _ u c s A f.ae [t.a,t.b] _ _ H rfl (pk b7 aq _ _ bz) nB (Ti ((b7.l 1 rfl (dM rfl)).trans rfl)) (dM rfl);exact hS|apply ad.F2 true [];rfl;rfl;rfl;exact aLQ aj|refine adk ?_|refine pA ?_|refine pv ?_|refine pz ?_|refine hW ?_|refine JZ ?_|refine fy ?_|(refine c7 ?_ ?_)<;>intro _)
 all_goals first
  | (refine cf _ (dt rfl) ⟨rfl, ?_⟩
     simp[fp,pZ,lU,j];try simp[mV,Au,Aq] at *
     rw[pj];simp[*]<;>omega)
  | skip
 refine W.loop (X:=Nat) (λπ i=>[(0,.pointer (some ⟨u,c,none⟩)),(38,.slice (cV (π 0)) 2 2),(39,bm ((2:Nat):Int)),(40,bm i)]) (λ_=>h) (λπ i=>[(0,bS (([t.goto,t.dx]:List Int).map λz=>.int .i64 z) 3)]) (λi=>i<=2/\tJ f.blocks.length [t.goto,t.dx]=tJ f.blocks.length (([t.goto,t.dx]:List Int).drop i)) (λi=>2-i) [2] 0 ⟨dG _,rfl⟩ kh ?_;intro π i bd;obtain⟨ag,bd⟩:=bd;dsimp only at ag bd|-;by_cases bs:i<2
 .obtain⟨n,ak⟩:∃n,([t.goto,t.dx]:List Int)[i]?=some n:=⟨_,ey bs⟩;have aE:(([t.goto,t.dx]:List Int).map λz=>Value.int .i64 z)[0+i*1]?=some (.int .i64 n):=by
   rw[ff,iV,gf,ak];rfl
  have B:([t.goto,t.dx]:List Int).drop i=n::([t.goto,t.dx]:List Int).drop (i+1):=by
   rw[sq bs];rw[ey bs] at ak;injection ak with ak;rw[ak]
  rw[B,avB _ n] at bd;repeat'(first|refine Nk ?_|refine kJ ?_|refine zo ?_|refine jj ?_|refine k7 ?_|refine hW ?_|refine Ew ?_|refine fy ?_|apply ad.RR;(iterate 5 rfl);exact aE|refine apn ?_|(refine c7 ?_ ?_)<;>intro _)
  .refine cf _ (dt rfl) ⟨rfl,?_⟩;have v:tJ f.blocks.length (di t)=false:=Vv;simp only[fp,lU,j,v];simp
  .refine cf _ (dt rfl) ⟨rfl,?_⟩;have v:tJ f.blocks.length (di t)=false:=Vv;simp only[fp,lU,j,v];simp
  .exact ajV
 .repeat(first|refine EH ?_|refine CD ?_)
  refine cf _ (dt rfl) ⟨rfl,?_⟩;have ab:i=2:=U;subst ab;have w:tJ f.blocks.length [t.goto,t.dx]=true:=bd;rw[<-lQ] at w;simp only[fp,pZ,lU,j,w];try simp only[Au,Aq] at *
  rw[pj];simp[*]<;>omega
def aLU f t(aj:t.bp=1) u c s A C D h(bz:h.m u=some ⟨⟨s⟩,A⟩)(nB:s[c+3]?=some (.int .i64 f.ae))(xZ:s[c+5]?=some (.slice C f.blocks.length D))(E:f.blocks.length<=1000000000000000):
 bc prog 29 ⟨[.pointer (some ⟨u,c,none⟩),.agg ⟨kr t⟩]⟩ h (.bool (lU f t)) h:=by
 refine bc.aO λaq=>?_;have gh:=aq _ _ bz;have j:e2 t=[]:=al6;have lQ:di t=[t.goto]:=by rw[di,au aj]
 refine bc.jT func29 ntmps29 ?_;conv=>arg 2;whnf
 repeat(first|apply ad.lT true [];rfl;rfl;rfl;exact λH b7=>Lv _ u c s A f.ae [] _ _ H rfl (pk b7 aq _ _ bz) nB c0.nil (dM rfl);exact hS|apply ad.wO;rfl;rfl;rfl;exact λH=>arv t U U H;exact hS|apply ad.F2 true [];rfl;rfl;rfl;exact aLP aj|refine adk ?_|refine uL ?_|refine hL ?_|refine pz ?_|refine hW ?_|refine zf ?_|refine ou ?_)
 repeat'(first|(refine c7 ?_ ?_)<;>intro _)
 all_goals first
  | (refine cf _ (dt rfl) ⟨rfl, ?_⟩
     simp[fp,pZ,lU,j];try simp[mV,Au,Aq,DX] at *
     rw[pj];simp[*]<;>omega)
  | skip
 refine W.loop (X:=Nat) (λπ i=>[(0,.pointer (some ⟨u,c,none⟩)),(38,.slice (cV (π 0)) 1 1),(39,bm ((1:Nat):Int)),(40,bm i)]) (λ_=>h) (λπ i=>[(0,bS (([t.goto]:List Int).map λz=>.int .i64 z) 3)]) (λi=>i<=1/\tJ f.blocks.length [t.goto]=tJ f.blocks.length (([t.goto]:List Int).drop i)) (λi=>1-i) [1] 0 ⟨dG _,rfl⟩ kh ?_;intro π i bd;obtain⟨ag,bd⟩:=bd;dsimp only at ag bd|-;by_cases bs:i<1
 .obtain⟨n,ak⟩:∃n,([t.goto]:List Int)[i]?=some n:=⟨_,ey bs⟩;have aE:(([t.goto]:List Int).map λz=>Value.int .i64 z)[0+i*1]?=some (.int .i64 n):=by
   rw[ff,iV,gf,ak];rfl
  have B:([t.goto]:List Int).drop i=n::([t.goto]:List Int).drop (i+1):=by
   rw[sq bs];rw[ey bs] at ak;injection ak with ak;rw[ak]
  rw[B,avB _ n] at bd;repeat'(first|refine Nk ?_|refine kJ ?_|refine zo ?_|refine jj ?_|refine k7 ?_|refine hW ?_|refine Ew ?_|refine fy ?_|apply ad.RR;(iterate 5 rfl);exact aE|refine apn ?_|(refine c7 ?_ ?_)<;>intro _)
  .refine cf _ (dt rfl) ⟨rfl,?_⟩;have v:tJ f.blocks.length (di t)=false:=Vv;simp only[fp,lU,j,v];simp
  .refine cf _ (dt rfl) ⟨rfl,?_⟩;have v:tJ f.blocks.length (di t)=false:=Vv;simp only[fp,lU,j,v];simp
  .exact ajV
 .repeat(first|refine EH ?_|refine CD ?_)
  refine cf _ (dt rfl) ⟨rfl,?_⟩;have ab:i=1:=U;subst ab;have w:tJ f.blocks.length [t.goto]=true:=bd;rw[<-lQ] at w;simp only[fp,pZ,lU,j,w];try simp only[mV,Au,Aq,DX] at *
  rw[pj];simp[zJ, *]
def aLV f t(aj:t.bp=3) s c j v z B h(A:h.m s=some ⟨⟨j⟩,v⟩)(w:j[c+3]?=some (.int .i64 f.ae))(C:j[c+5]?=some (.slice z f.blocks.length B))(D:f.blocks.length<=1000000000000000):
 bc prog 29 ⟨[.pointer (some ⟨s,c,none⟩),.agg ⟨kr t⟩]⟩ h (.bool (lU f t)) h:=by
 refine bc.aO λaq=>?_;have u:e2 t=[t.a]:=by rw[e2,ai U,au aj]
 refine bc.jT func29 ntmps29 ?_;conv=>arg 2;whnf
 repeat'(first|apply ad.lT true [1];rfl;rfl;rfl;exact λH b7=>Lv _ s c j v f.ae [t.a] _ _ H rfl (pk b7 aq _ _ A) w (Ti ((b7.l 1 rfl (dM rfl)).trans rfl)) (dM rfl);exact hS|apply ad.F2 true [];rfl;rfl;rfl;exact aLS aj|apply ad.wO;rfl;rfl;rfl;exact λH=>ars t U U H;exact hS|refine adk ?_|refine vx ?_|refine hL ?_|refine pz ?_|refine hW ?_|refine JZ ?_|refine vy ?_|(refine c7 ?_ ?_)<;>intro _)
 all_goals first
  | (refine cf _ (dt rfl) ⟨rfl, ?_⟩
     simp[fp,pZ,lU,u];try simp[mV,DX] at *
     rw[pj];simp[*]<;>omega)
  | skip
 refine W.loop (X:=Unit) (λπ i=>[(0,.pointer (some ⟨s,c,none⟩)),(38,.slice none 0 0),(39,bm 0),(40,bm 0)]) (λ_=>h) (λπ i=>[]) (λi=>True) (λi=>0) [] () trivial kh ?_;intro π i _;repeat(first|refine EH ?_|refine CD ?_)
 refine cf _ (dt rfl) ⟨rfl,?_⟩;simp[fp,pZ,lU,u,(by rw[di,ai U,ai U]:di t=[]),tJ,List.all_nil];try simp[Au,DX] at *
 rw[pj];simp[*]
def aLW f t(aj:¬(1<=t.bp/\t.bp<=3)) j i c s u v h(B:h.m j=some ⟨⟨c⟩,s⟩)(A:c[i+3]?=some (.int .i64 f.ae))(w:c[i+5]?=some (.slice u f.blocks.length v))(z:f.blocks.length<=1000000000000000):
 bc prog 29 ⟨[.pointer (some ⟨j,i,none⟩),.agg ⟨kr t⟩]⟩ h (.bool (lU f t)) h:=by
 refine bc.aO λaq=>?_;refine bc.jT func29 ntmps29 ?_;conv=>arg 2;whnf
 repeat'(first|refine Ey ?_|refine zo ?_|refine xT ?_|refine hW ?_|refine CE ?_|(refine c7 ?_ ?_)<;>intro _)
 all_goals first
  | (refine cf _ (dt rfl) ⟨rfl, ?_⟩
     simp[fp,pZ,lU,(al6:e2 t=[])];try simp[Aq] at *
     rw[pj];simp[*]<;>omega)
  | trace_state
def aLX f t c b a d e g h(l:h.m c=some ⟨⟨a⟩,d⟩)(k:a[b+3]?=some (.int .i64 f.ae))(i:a[b+5]?=some (.slice e f.blocks.length g))(j:f.blocks.length<=1000000000000000):
 bc prog 29 ⟨[.pointer (some ⟨c,b,none⟩),.agg ⟨kr t⟩]⟩ h (.bool (lU f t)) h:=by
 by_cases J:t.bp=1
 .exact aLU f t J c b a d e g h l k i j
 by_cases n:t.bp=2
 .exact aLT f t n c b a d e g h l k i j
 by_cases o:t.bp=3
 .exact aLV f t o c b a d e g h l k i j
 .exact aLW f t U c b a d e g h l k i j
def aLY p f x b l o d1 n d2 d a m k i r g s j q A c h(bh:nH h b p l o d1 n d2)(t:Dx h d a f m k i r g s j q)(u:c0 h A 2 x.args kL)(ak:x.args.length<=1000000000):
 bc prog 28 ⟨[.pointer (some ⟨b,0,none⟩),.pointer (some ⟨d,a,none⟩),.agg ⟨cL x A c⟩]⟩ h (.bool (iH p f x)) h:=by
 by_cases y:x.op=28
 .exact aKW p f x b l o d1 n d2 d a m k i r g s j q A c h bh t u U y
 by_cases w:x.op=29
 .exact aK1 p f x b l o d1 n d2 d a m k i r g s j q A c h bh t u ak w
 by_cases v:e6 x.op=true\/x.op=27
 .exact aK2 p f x b l o d1 n d2 d a m k i r g s j q A c h bh t u ak v
 by_cases h0:23<=x.op/\x.op<=25
 .exact aK4 p f x b l o d1 n d2 d a m k i r g s j q A c h bh t u ak h0
 .refine aK3 p f x b l o d1 n d2 d a m k i r g s j q A c h bh t u ak ?_ h0 ?_
  .rcases z:e6 x.op with _|_
   .rfl
   .exact absurd (.inl z) v
  .intro aB;have:x.op=27\/x.op=28\/x.op=29:=U;rcases this with e|e|e
   .exact v (.inr e)
   .exact y e
   .exact w e
def tu(rB:Nat)(x:zI):Option Int :=
 if x.bp=0 then some x.data.length
 else if x.bp=1 then(if x.n<0\/(rB:Int)<=x.n then none else some 8)
 else if x.bp=2\/x.bp=3 then some x.n else none
def Fa(rB:Nat):List zI->Int->Bool
 | [],left=>left==0
 | x::l,left=>match tu rB x with
  | none=>false
  | some n=>if n<0\/left<n then false else Fa rB l (left-n)
def sX(p:fX)(g:CK):Bool:=decide (0<=g.qM)&&decide (0<=g.size)&&decide (g.size<=p.data)&&decide (g.qM<=p.data-g.size)&&Fa p.funcs.length g.dn g.size
def aLZ p g j z C d1 B d2 A c h(bh:h.m j=some ⟨⟨hd p C d1 B d2⟩,z⟩)(D:c0 h A 3 g.dn (Od h))(ak:g.dn.length<=1000000000000000)(S:0<=p.data/\p.data<=1000000000)(F:∀x∈g.dn,b8 x.n/\x.data.length<=1000000000000000):
 bc prog 27 ⟨[.pointer (some ⟨j,0,none⟩),.agg ⟨XA g A c⟩]⟩ h (.bool (sX p g)) h:=by
 refine bc.aO λaq=>?_;have s:=aq _ _ bh;refine bc.jT func27 ntmps27 ?_;conv=>arg 2;whnf
 repeat'(first|apply ad.dv;rfl;rfl;rfl;exact bh;exact s;rfl|refine M6 ?_|refine rR ?_|refine jH ?_|refine k7 ?_|refine xT ?_|refine hW ?_|refine JZ ?_|refine fy ?_|(refine c7 ?_ ?_)<;>intro _)
 rotate_left 4
 .refine W.loop (X:=Nat×Int) (λπ x=>[(0,cE j),(5,bm x.2),(41,.slice A g.dn.length c),(42,bm g.dn.length),(43,bm x.1)]) (λ_=>h) (λπ x=>[]) (λx=>x.1<=g.dn.length/\0<=x.2/\x.2<=g.size/\Fa p.funcs.length g.dn g.size=Fa p.funcs.length (g.dn.drop x.1) x.2) (λx=>g.dn.length-x.1) [] (0,g.size) ⟨dG _,nR,sl _,rfl⟩ kh ?_;intro π x f;have⟨i,left⟩:=x;have⟨ag,w,v,f⟩:=f;dsimp only at ag w v f|-;by_cases bs:i<g.dn.length
  .have⟨x,aa⟩:=cR g.dn i bs;obtain⟨R,O,Q,M,rfl,cF,EE,uR⟩:=D.get i x aa;have k8:=aq _ _ cF;obtain⟨N,L,uR,_⟩:=uR;obtain⟨oQ,E⟩:=F x (bQ aa);have u:g.dn.drop i=x::g.dn.drop (i+1):=by
    rw[sq bs];rw[ey bs] at aa;injection aa with aa;rw[aa]
   rw[u,Fa] at f;unfold b8 at oQ;repeat'(first|refine er ?_|refine W6 ?_|apply ad.dv;rfl;rfl;rfl;exact bh;exact s;rfl|refine kJ ?_|refine pA ?_|refine pv ?_|refine jj ?_|refine jH ?_|refine k7 ?_|refine q0 ?_|refine hW ?_|refine Ew ?_|refine fy ?_|(refine c7 ?_ ?_)<;>intro _)
   all_goals simp only[gt_iff_lt,ge_iff_le,Aq,DX] at *
   all_goals first
    | (refine cf _ (dt rfl) ⟨rfl, ?_⟩
       have G:Fa p.funcs.length g.dn g.size=false:=(by
        first
         | (rw[f];unfold tu;rw[ai h3,au h3,ai U];simp only;rw[au U])
         | (rw[f];unfold tu;simp[*]<;>omega))
       simp only[fp,sX,G,Uq])
    | exact mW (i+1,left-x.data.length) [] rfl rfl ⟨nR,nR,nR,by rw[f];unfold tu;rw[au h3];simp only;rw[ai U]⟩ nR kh
    | exact mW (i+1,left-8) [] rfl rfl ⟨nR,nR,nR,by rw[f];unfold tu;rw[ai h3,au h3,ai U];simp only;rw[ai U]⟩ nR kh
    | exact mW (i+1,left-x.n) [] rfl rfl ⟨nR,nR,nR,by rw[f];unfold tu;rw[ai h3,ai h3,au U];simp only;rw[ai U]⟩ nR kh
    | trace_state
  .repeat(first|refine fi ?_|refine A0 ?_|refine c8 ?_|refine CD ?_)
   refine cf _ (dt rfl) ⟨rfl,?_⟩;rw[np U,Fa] at f;simp only[fp,pZ,sX,f];rw[pj];simp;omega
 all_goals refine cf _ (dt rfl) ⟨rfl,?_⟩
 all_goals simp only[fp,pZ,sX]
 all_goals(rw[pj];simp;omega)
end Go.Proofs.YtplleokmejppjaaGreatDoor
