/- Contracts of functions that the law reaches -/
import Derived.Test.YtplleokmejppjaaGreatDoorR5
set_option linter.all false
set_option maxHeartbeats 9999999
set_option maxRecDepth 100000
namespace Go.Proofs.YtplleokmejppjaaGreatDoor
open Go.Proofs.Tryz
open Go.AH
attribute[local irreducible] W ad
def yX(g:CK):Bool:=decide (g.qM<=4096)&&decide (g.size<=4096)&&decide (g.dn.length<=50)&&g.dn.all (λx=>decide (x.data.length<=4096))
def Ht:List cO->Nat->Option Nat
 | [],n=>some n
 | x::l,n=>if n+x.args.length<=4000/\-1073741824<=x.off/\x.off<=1073741824 then Ht l (n+x.args.length) else none
def CL:List bT->Nat->Option Nat
 | [],n=>some n
 | b::l,n=>if n+b.ah.length<=2000 then(Ht b.ah (n+b.ah.length)).bind (CL l) else none
def Nw(f:dp):Bool:=f.bZ.all (λs=>decide (0<=s)&&decide (s<=1000)&&decide (f.bZ.length<=4))
def x2:List dp->Nat->Option Nat
 | [],n=>some n
 | f::l,n=>if n+(1+f.blocks.length+f.bZ.length)<=2000/\0<=f.ae/\f.ae<=300/\Nw f=true then(CL f.blocks (n+(1+f.blocks.length+f.bZ.length))).bind (x2 l) else none
def kj(p:fX):Bool:=decide (p.funcs.length<=20)&&decide (p.globals.length<=20)&&decide (0<=p.data)&&decide (p.data<=4096)&&p.globals.all yX&&(x2 p.funcs 0).isSome
def A1{α:Type}{l:List α}{i x}(h:l[i]?=some x):l.drop i=x::l.drop (i+1):=by
 have bs:=(cS.1 h).1;rw[sq bs];rw[ey bs] at h;injection h with h;rw[h]
def aBc{p}(J:p.funcs.length<=20)(c:p.globals.length<=20)(d:0<=p.data)(b:p.data<=4096)(a:p.globals.all yX=true):kj p=(x2 p.funcs 0).isSome:=by
 unfold kj;simp[J,c,d,b,a]
def aAo p(aQ:p.ok) h D d1 C d2(kU:c0 h D 6 p.funcs (Kc h))(rN:c0 h C 4 p.globals (CM h)):
 bc prog 12 ⟨[.agg ⟨hd p D d1 C d2⟩]⟩ h (.bool (kj p)) h:=by
 refine bc.aO λaq=>?_;have wR:=aQ.Xx;have aBd:=aQ.Xy;refine bc.still (c:=(f12.body.getD .skip)) func12 ax ntmps12 ax aF ?_;conv=>arg 2;whnf
 repeat'(first|refine WY ?_|refine rR ?_|refine xT ?_|refine hW ?_|refine JZ ?_|refine fy ?_|(refine c7 ?_ ?_)<;>intro _)
 rotate_left 4
 .rename_i tB EP apC aRh;have Nx:p.globals.all yX=true->kj p=(x2 p.funcs 0).isSome:=λA=>aBc U U U U A;have aBe:p.globals.all yX=false->kj p=false:=λA=>by unfold kj;rw[A];simp
  refine W.loop (X:=Nat) (λπ i=>[(1,.pointer (some ⟨π 0,0,none⟩)),(3,.int .i64 0),(37,.slice C p.globals.length d2),(38,.int .i64 p.globals.length),(39,.int .i64 i)]) (λ_=>h) (λπ i=>[(0,some ⟨⟨hd p D d1 C d2⟩,25⟩)]) (λi=>i<=p.globals.length/\p.globals.all yX=(p.globals.drop i).all yX) (λi=>p.globals.length-i) [0] 0 ⟨dG _,rfl⟩ kh ?_;intro π i z;obtain⟨ag,z⟩:=z;dsimp only at ag z|-;by_cases bs:i<p.globals.length
  .obtain⟨g,bf⟩:∃g,p.globals[i]?=some g:=⟨_,ey bs⟩;obtain⟨fL,go,pB,ge,rfl,cQ,n5,lz⟩:=rN.get i g bf;have mD:=aq _ _ cQ;obtain⟨Q,O,lz,ad2⟩:=lz;have ER:=aQ.Xz g (bQ bf);have zt:=ER.apD;rw[Kd bf] at z;have Ke:yX g=false->kj p=false:=λA=>aBe (by rw[z,A];rfl);repeat'(first|refine AY ?_|refine Cv ?_|refine zo ?_|refine q0 ?_|refine hW ?_|refine fy ?_|refine WV ?_|(refine c7 ?_ ?_)<;>intro _)
   rotate_left 3
   .rename_i v1 v2 v3;have Y:yX g=g.dn.all (λx=>decide (x.data.length<=4096)):=by
     unfold yX;rw[qE (U:g.qM<=4096),qE (U:g.size<=4096),qE (U:g.dn.length<=50)];simp
    refine W.loop (X:=Nat) (λπ j=>[(1,.pointer (some ⟨π 0,0,none⟩)),(3,.int .i64 0),(37,.slice (some ⟨fL,go,none⟩) p.globals.length d2),(38,.int .i64 p.globals.length),(39,.int .i64 i),(5,.pointer (some ⟨π 1,0,none⟩)),(58,.slice Q g.dn.length O),(59,.int .i64 g.dn.length),(60,.int .i64 j)]) (λ_=>h) (λπ i=>[(1,some ⟨⟨XA g Q O⟩,73⟩),(0,some ⟨⟨hd p D d1 (some ⟨fL,go,none⟩) d2⟩,25⟩)]) (λj=>j<=g.dn.length/\g.dn.all (λx=>decide (x.data.length<=4096))=(g.dn.drop j).all (λx=>decide (x.data.length<=4096))) (λj=>g.dn.length-j) [0,1] 0 ⟨dG _,rfl⟩ kh ?_;intro π j u;obtain⟨L,u⟩:=u;dsimp only at L u|-;by_cases N:j<g.dn.length
    .obtain⟨x,aa⟩:∃x,g.dn[j]?=some x:=⟨_,ey N⟩;obtain⟨bN,cq,c1,eH,rfl,j8,anz,WK⟩:=ad2.get j x aa;have ze:=aq _ _ j8;obtain⟨apF,apG,WK,aRi⟩:=WK;have jJ:=(ER.dn x (bQ aa)).apH;rw[Kd aa] at u;repeat'(first|refine CG ?_|refine Cv ?_|refine Nt ?_|refine jj ?_|refine q0 ?_|refine c8 ?_|refine Ew ?_|refine fy ?_|(refine c7 ?_ ?_)<;>intro _)
     .refine cf _ (.cons (.tmp rfl) .nil) ⟨rfl,?_⟩;have A:decide (x.data.length<=4096)=false:=jf;rw[A,DU] at u;rw[Ke (Y.trans u)];rfl
     .have A:decide (x.data.length<=4096)=true:=jf;rw[A,uk] at u;exact mW (j+1) [0,1] rfl rfl ⟨U,u⟩ U kh
    .repeat(first|refine EJ ?_|refine M9 ?_|refine lC ?_)
     rw[np U] at u;have A:yX g=true:=by rw[Y,u];rfl
     rw[A,uk] at z;exact mW (i+1) [0] rfl rfl ⟨U,z⟩ U kh
   .refine cf _ (.cons (.tmp rfl) .nil) ⟨rfl,?_⟩;rw[Ke abH];rfl
   .refine cf _ (.cons (.tmp rfl) .nil) ⟨rfl,?_⟩;rw[Ke abH];rfl
   .refine cf _ (.cons (.tmp rfl) .nil) ⟨rfl,?_⟩;rw[Ke abH];rfl
  .repeat(first|refine vv ?_|refine hL ?_|refine xT ?_|refine lB ?_|refine AV ?_|refine apk ?_)
   rw[np U] at z;have rS:=Nx z;refine W.loop (X:=Nat×Nat) (λπ y=>[(1,.pointer (some ⟨π 0,0,none⟩)),(3,.int .i64 y.2),(71,.slice D p.funcs.length d1),(72,.int .i64 p.funcs.length),(73,.int .i64 y.1)]) (λ_=>h) (λπ i=>[(0,some ⟨⟨hd p D d1 C d2⟩,25⟩)]) (λy=>y.1<=p.funcs.length/\y.2<=4000/\kj p=(x2 (p.funcs.drop y.1) y.2).isSome) (λy=>p.funcs.length-y.1) [0] (0,0) ⟨dG _,dG _,rS⟩ kh ?_;intro π y z;obtain⟨i,n⟩:=y;obtain⟨ag,ak,z⟩:=z;dsimp only at ag ak z|-;by_cases bs:i<p.funcs.length
   .obtain⟨f,ar⟩:∃g,p.funcs[i]?=some g:=⟨_,ey bs⟩;obtain⟨G,E,dS,fk,rfl,bz,uz,ks⟩:=kU.get i f ar;have gh:=aq _ _ bz;obtain⟨jS,aW,Z,aT,jK,R,ks,ad3,XB⟩:=ks;have q2:=aQ.funcs f (bQ ar);have vB:=q2.XC;have amQ:=q2.ad4;rw[A1 ar] at z;repeat'(first|refine er ?_|refine Cv ?_|refine zo ?_|refine jH ?_|refine q0 ?_|refine hW ?_|refine fy ?_|apply ad.hF;rfl;rfl;rfl;exact bz;exact gh;exact uz;exact ks|refine WV ?_|(refine c7 ?_ ?_)<;>intro _)
    rotate_left 3
    .rename_i dJ oT tC;have hm:n+(1+f.blocks.length+f.bZ.length)<=2000:=U;have V:(n:Int)+(1+(f.blocks.length:Int)+(f.bZ.length:Int))=((n+(1+f.blocks.length+f.bZ.length):Nat):Int):=U;have T:Nw f=true->kj p=((CL f.blocks (n+(1+f.blocks.length+f.bZ.length))).bind (x2 (p.funcs.drop (i+1)))).isSome:=λA=>by rw[z];show(if _ then _ else _:Option Nat).isSome=_;rw[au ⟨hm,U,U,A⟩]
     have n7:Nw f=false->kj p=false:=λA=>by rw[z];show(if _ then _ else _:Option Nat).isSome=_;rw[ai (λF=>by rw[F.2.2.2] at A;cases A)];rfl
     rw[V];clear z V;generalize e9:n+(1+f.blocks.length+f.bZ.length)=m at *;refine W.loop (X:=Nat) (λπ j=>[(1,.pointer (some ⟨π 0,0,none⟩)),(3,.int .i64 m),(71,.slice (some ⟨G,E,none⟩) p.funcs.length d1),(72,.int .i64 p.funcs.length),(73,.int .i64 i),(9,.pointer (some ⟨π 1,0,none⟩)),(100,.slice Z f.bZ.length aT),(101,.int .i64 f.bZ.length),(102,.int .i64 j)]) (λ_=>h) (λπ i=>[(1,some ⟨⟨dj f jS aW Z aT jK R⟩,53⟩),(0,some ⟨⟨hd p (some ⟨G,E,none⟩) d1 C d2⟩,25⟩)]) (λj=>j<=f.bZ.length/\Nw f=(f.bZ.drop j).all (λs=>decide (0<=s)&&decide (s<=1000)&&decide (f.bZ.length<=4))) (λj=>f.bZ.length-j) [0,1] 0 ⟨dG _,rfl⟩ kh ?_;intro π j u;obtain⟨L,u⟩:=u;dsimp only at L u|-;by_cases N:j<f.bZ.length
     .obtain⟨s,aC⟩:∃x,f.bZ[j]?=some x:=⟨_,ey N⟩;obtain⟨aRj,aRk,aRl,aRm,rfl,XD,aRn,aBf⟩:=ad3.get j s aC;have aBg:=aq _ _ XD;have aBh:=ka (j:=0) aBf rfl;rw[Kd aC] at u;repeat'(first|refine er ?_|apply ad.dv;rfl;rfl;rfl;exact XD;exact aBg;exact aBh|refine Cv ?_|refine zo ?_|refine jj ?_|refine xT ?_|refine hW ?_|refine Ew ?_|refine fy ?_|(refine c7 ?_ ?_)<;>intro _)
      rotate_left 3
      .rw[show(decide (0<=s)&&decide (s<=1000)&&decide (f.bZ.length<=4))=true by simp;omega,uk] at u;exact mW (j+1) [0,1] rfl rfl ⟨U,u⟩ U kh
      all_goals refine cf _ (.cons (.tmp rfl) .nil) ⟨rfl,?_⟩
      all_goals rw[show(decide (0<=s)&&decide (s<=1000)&&decide (f.bZ.length<=4))=false by simp;omega,DU] at u
      all_goals rw[n7 u];rfl
     .repeat(first|refine vv ?_|refine hL ?_|refine oS ?_|refine apk ?_|refine lC ?_)
      rw[np U] at u;refine W.loop (X:=Nat×Nat) (λπ y=>[(1,.pointer (some ⟨π 0,0,none⟩)),(3,.int .i64 y.2),(71,.slice (some ⟨G,E,none⟩) p.funcs.length d1),(72,.int .i64 p.funcs.length),(73,.int .i64 i),(9,.pointer (some ⟨π 1,0,none⟩)),(120,.slice jK f.blocks.length R),(121,.int .i64 f.blocks.length),(122,.int .i64 y.1)]) (λ_=>h) (λπ i=>[(1,some ⟨⟨dj f jS aW Z aT jK R⟩,53⟩),(0,some ⟨⟨hd p (some ⟨G,E,none⟩) d1 C d2⟩,25⟩)]) (λy=>y.1<=f.blocks.length/\y.2<=4000/\kj p=((CL (f.blocks.drop y.1) y.2).bind (x2 (p.funcs.drop (i+1)))).isSome) (λy=>f.blocks.length-y.1) [0,1] (0,m) ⟨dG _,U,T u⟩ kh ?_;clear L u N T n7;intro π y u;obtain⟨j,m⟩:=y;obtain⟨L,M,u⟩:=u;dsimp only at L M u|-;by_cases N:j<f.blocks.length
      .obtain⟨b,I⟩:∃b,f.blocks[j]?=some b:=⟨_,ey N⟩;obtain⟨aL,nE,XE,be,rfl,cF,EE,uR⟩:=XB.get j b I;have k8:=aq _ _ cF;obtain⟨Q,O,uR,RG⟩:=uR;have dZ:=q2.blocks b (bQ I);have rT:=dZ.n;rw[A1 I] at u;repeat'(first|refine er ?_|refine W6 ?_|refine Cv ?_|refine Nt ?_|refine Xo ?_|refine q0 ?_|refine c8 ?_|refine WV ?_|refine fy ?_|(refine c7 ?_ ?_)<;>intro _)
       .refine cf _ (.cons (.tmp rfl) .nil) ⟨rfl,?_⟩;rw[show kj p=false by rw[u];show(Option.bind (if _ then _ else _:Option Nat) _).isSome=_;rw[ai (λF=>U)];rfl];rfl
       .rename_i Cg;have Kf:m+b.ah.length<=2000:=U;have S:kj p=(((Ht b.ah (m+b.ah.length)).bind (CL (f.blocks.drop (j+1)))).bind (x2 (p.funcs.drop (i+1)))).isSome:=by rw[u];show(Option.bind (if _ then _ else _:Option Nat) _).isSome=_;rw[au Kf]
        refine W.loop (X:=Nat×Nat) (λπ y=>[(1,.pointer (some ⟨π 0,0,none⟩)),(3,.int .i64 y.2),(71,.slice (some ⟨G,E,none⟩) p.funcs.length d1),(72,.int .i64 p.funcs.length),(73,.int .i64 i),(9,.pointer (some ⟨π 1,0,none⟩)),(120,.slice (some ⟨aL,nE,none⟩) f.blocks.length R),(121,.int .i64 f.blocks.length),(122,.int .i64 j),(13,.pointer (some ⟨π 2,0,none⟩)),(134,.slice Q b.ah.length O),(135,.int .i64 b.ah.length),(136,.int .i64 y.1)]) (λ_=>h) (λπ i=>[(2,some ⟨⟨kq b Q O⟩,48⟩),(1,some ⟨⟨dj f jS aW Z aT (some ⟨aL,nE,none⟩) R⟩,53⟩),(0,some ⟨⟨hd p (some ⟨G,E,none⟩) d1 C d2⟩,25⟩)]) (λy=>y.1<=b.ah.length/\y.2<=4000/\kj p=(((Ht (b.ah.drop y.1) y.2).bind (CL (f.blocks.drop (j+1)))).bind (x2 (p.funcs.drop (i+1)))).isSome) (λy=>b.ah.length-y.1) [0,1,2] (0,m+b.ah.length) ⟨dG _,U,S⟩ kh ?_;clear u Cg Kf S M;intro π y B;obtain⟨k,m⟩:=y;obtain⟨aj,M,B⟩:=B;dsimp only at aj M B|-;by_cases jL:k<b.ah.length
        .obtain⟨x,aa⟩:∃x,b.ah[k]?=some x:=⟨_,ey jL⟩;obtain⟨bN,cq,c1,eH,rfl,cc,gq,eP⟩:=RG.get k x aa;have dW:=aq _ _ cc;obtain⟨apF,apG,eP,RC⟩:=eP;have jJ:=(dZ.ah x (bQ aa)).n;rw[A1 aa] at B;repeat'(first|refine er ?_|refine Rq ?_|refine Cv ?_|refine zo ?_|refine jj ?_|refine Xo ?_|refine q0 ?_|refine hW ?_|refine Ew ?_|refine fy ?_|(refine c7 ?_ ?_)<;>intro _)
         rotate_left 3
         .exact mW (k+1,m+x.args.length) [0,1,2] rfl rfl ⟨U,hR,B.trans (by show(Option.bind (Option.bind (if _ then _ else _:Option Nat) _) _).isSome=_;rw[au ⟨U,U,U⟩])⟩ U kh
         all_goals refine cf _ (.cons (.tmp rfl) .nil) ⟨rfl,?_⟩
         all_goals rw[show kj p=false by rw[B];show(Option.bind (Option.bind (if _ then _ else _:Option Nat) _) _).isSome=_;rw[ai (λF=>U)];rfl];rfl
        .repeat(first|refine EJ ?_|refine M9 ?_|refine lC ?_)
         rw[np U] at B;exact mW (j+1,m) [0,1] rfl rfl ⟨U,M,B⟩ U kh
      .repeat(first|refine EJ ?_|refine M9 ?_|refine lC ?_)
       rw[np U] at u;exact mW (i+1,m) [0] rfl rfl ⟨U,M,u⟩ U kh
    .refine cf _ (.cons (.tmp rfl) .nil) ⟨rfl,?_⟩;rw[show kj p=false by rw[z];show(if _ then _ else _:Option Nat).isSome=_;rw[ai (λF=>U)];rfl];rfl
    .refine cf _ (.cons (.tmp rfl) .nil) ⟨rfl,?_⟩;rw[show kj p=false by rw[z];show(if _ then _ else _:Option Nat).isSome=_;rw[ai (λF=>U)];rfl];rfl
    .refine cf _ (.cons (.tmp rfl) .nil) ⟨rfl,?_⟩;rw[show kj p=false by rw[z];show(if _ then _ else _:Option Nat).isSome=_;rw[ai (λF=>U)];rfl];rfl
   .repeat(first|refine EH ?_|refine CD ?_)
    rw[np U] at z;exact cf _ (.cons (.tmp rfl) .nil) ⟨rfl,by rw[z];rfl⟩
 all_goals refine cf _ (.cons (.tmp rfl) .nil) ⟨rfl,?_⟩
 .exact U8
 .exact U8
 .exact U8
 .exact U8
end Go.Proofs.YtplleokmejppjaaGreatDoor
