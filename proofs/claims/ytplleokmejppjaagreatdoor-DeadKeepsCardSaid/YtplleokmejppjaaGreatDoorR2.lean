/- Contracts of functions that the law reaches -/
import Derived.Test.YtplleokmejppjaaGreatDoorR1
set_option linter.all false
set_option maxHeartbeats 9999999
namespace Go.Proofs.YtplleokmejppjaaGreatDoor
open Go.Proofs.Tryz
open Go.AH
section
attribute[local irreducible] W ad
def e6(op:Int):Bool:=decide (3<=op)&&decide (op<=21)
def WD op h:bc prog 74 ⟨[.int .i64 op]⟩ h (.bool (e6 op)) h:=by
 refine bc.jT func74 ntmps74 ?_;conv=>arg 2;whnf
 repeat'(first|refine fi ?_|refine rR ?_|refine AW ?_|(refine c7 ?_ ?_)<;>intro _)
 all_goals refine cf _ (dt rfl) ⟨rfl,?_⟩
 all_goals simp only[fp,pZ,e6]
 all_goals(rw[pj];simp at *;try omega)
def Sa(op:Int):Bool:=decide (6<=op)&&decide (op<=9)
def aEx op h:bc prog 85 ⟨[.int .i64 op]⟩ h (.bool (Sa op)) h:=by
 refine bc.jT func85 ntmps85 ?_;conv=>arg 2;whnf
 repeat'(first|refine fi ?_|refine rR ?_|refine AW ?_|(refine c7 ?_ ?_)<;>intro _)
 all_goals refine cf _ (dt rfl) ⟨rfl,?_⟩
 all_goals simp only[fp,pZ,Sa]
 all_goals(rw[pj];simp at *;try omega)
def vF(op:Int):Bool:=decide (1<=op)&&decide (op<=25)
def arj op h:bc prog 69 ⟨[.int .i64 op]⟩ h (.bool (vF op)) h:=by
 refine bc.jT func69 ntmps69 ?_;conv=>arg 2;whnf
 repeat'(first|refine fi ?_|refine rR ?_|refine AW ?_|(refine c7 ?_ ?_)<;>intro _)
 all_goals refine cf _ (dt rfl) ⟨rfl,?_⟩
 all_goals simp only[fp,pZ,vF]
 all_goals(rw[pj];simp at *;try omega)
def NN(n:Int):Bool:=n==1||n==2||n==4||n==8
def aA3 n h:bc prog 47 ⟨[.int .i64 n]⟩ h (.bool (NN n)) h:=by
 refine bc.jT func47 ntmps47 ?_;conv=>arg 2;whnf
 repeat'(first|refine fi ?_|refine rR ?_|refine AW ?_|(refine c7 ?_ ?_)<;>intro _)
 all_goals refine cf _ (dt rfl) ⟨rfl,?_⟩
 all_goals simp only[fp,pZ,NN]
 all_goals(rw[pj];simp at *;try omega)
def u64(a:Int):Int:=IntKind.u64.wrap a
def nc(op a b:Int):Bool:=if op=16 then a==b else if op=17 then !(a==b) else if op=18 then decide (a<b) else if op=19 then decide (a<=b) else if op=20 then decide (u64 a<u64 b) else if op=21 then decide (u64 a<=u64 b) else false
def ao9 op a b h:bc prog 81 ⟨[.int .i64 op,.int .i64 a,.int .i64 b]⟩ h (.bool (nc op a b)) h:=by
 refine bc.jT func81 ntmps81 ?_;conv=>arg 2;whnf
 repeat'(first|refine wI ?_|refine zr ?_|refine c8 ?_|refine acT ?_|refine qU ?_|(refine c7 ?_ ?_)<;>intro _)
 all_goals refine cf _ (dt rfl) ⟨rfl,?_⟩
 all_goals first
  | (subst_vars;rfl)
  | (simp[fp,nc,bne, *];done)
def apv n:0<=IntKind.u64.wrap n:=UW
def ark{n}(h0:-9223372036854775808<=n)(J:n<=9223372036854775807)(h:¬n=0):IntKind.u64.wrap n≠0:=UW
def i64(a:Int):Int:=IntKind.i64.wrap a
def Ko(op a b:Int):Int×Bool :=
 if op=6 then(if b=0\/a=-9223372036854775808/\b=-1 then(0,false) else(i64 (a.tdiv b),true))
 else if b=0 then(0,false)
 else if op=8 then(if a=-9223372036854775808/\b=-1 then(0,false) else(a.tmod b,true))
 else if op=7 then(i64 (u64 ((u64 a).tdiv (u64 b))),true)
 else(i64 ((u64 a).tmod (u64 b)),true)
def HE(r:Int×Bool):Value:=.tuple ⟨[.int .i64 r.1,.bool r.2]⟩
@[simp] theorem aRD n r:bw n (HE r):=by simp[HE]
def aEy op a b(h0:-9223372036854775808<=b)(J:b<=9223372036854775807) h:bc prog 106 ⟨[.int .i64 op,.int .i64 a,.int .i64 b]⟩ h (HE (Ko op a b)) h:=by
 refine bc.jT func106 ntmps106 ?_;conv=>arg 2;whnf
 repeat'(first|apply ad.quo;(iterate 4 rfl);(first|assumption|exact ark h0 J h3)|apply ad.rem;(iterate 4 rfl);(first|assumption|exact ark h0 J h3)|refine wI ?_|refine pA ?_|refine pv ?_|refine CC ?_|(refine c7 ?_ ?_)<;>intro _)
 all_goals refine cf _ (.cons (.tmp rfl) (dt rfl)) ⟨rfl,?_⟩
 all_goals simp[fp,Ko,HE,u64,i64, *]
def NZ(a b:Int):Int:=i64 ((BitVec.ofInt 64 a&&&BitVec.ofInt 64 b).toNat:Int)
def R3(a b:Int):Int:=i64 ((BitVec.ofInt 64 a|||BitVec.ofInt 64 b).toNat:Int)
def R4(a b:Int):Int:=i64 ((BitVec.ofInt 64 a^^^BitVec.ofInt 64 b).toNat:Int)
def X5(b:Int):Nat:=min (u64 (NZ b 63)).toNat 64
def h7(op a b:Int):Int×Bool :=
 if op=3 then(i64 (a+b),true) else if op=4 then(i64 (a-b),true) else if op=5 then(i64 (a*b),true)
 else if op=10 then(NZ a b,true) else if op=11 then(R3 a b,true) else if op=12 then(R4 a b,true)
 else if op=13 then(i64 (a*2^X5 b),true) else if op=14 then(a.fdiv (2^X5 b),true) else if op=15 then(i64 ((u64 a).fdiv (2^X5 b)),true)
 else if op=6\/op=8\/op=7\/op=9 then Ko op a b
 else(if nc op a b=true then 1 else 0,true)
def aex op a b(h0:-9223372036854775808<=b)(J:b<=9223372036854775807) h:bc prog 91 ⟨[.int .i64 op,.int .i64 a,.int .i64 b]⟩ h (HE (h7 op a b)) h:=by
 refine bc.jT func91 ntmps91 ?_;conv=>arg 2;whnf
 repeat'(first|refine apu ?_|(apply ad.wO;rfl;rfl;rfl;first|exact λH=>ao9 _ _ _ H;exact hS|exact λH=>aEy _ _ _ h0 J H;exact hS)|refine wI ?_|refine zr ?_|refine No ?_|refine c8 ?_|refine acT ?_|refine fy ?_|(refine c7 ?_ ?_)<;>intro _)
 all_goals refine cf _ (.cons (.tmp rfl) (dt rfl)) ⟨rfl,?_⟩
 all_goals first
  | (subst_vars;rfl)
  | (simp[fp,h7,HE,IntKind.bits, *];done)
  | trace_state
def q8(n size:Int)(s:Bool):Int :=
 if size<1\/7<size then n else if s=true then(i64 (n*2^min (64-8*size).toNat 64)).fdiv (2^min (64-8*size).toNat 64)
 else i64 ((u64 (u64 n*2^min (64-8*size).toNat 64)).fdiv (2^min (64-8*size).toNat 64))
def anP n size s h:bc prog 90 ⟨[.int .i64 n,.int .i64 size,.bool s]⟩ h (.int .i64 (q8 n size s)) h:=by
 refine bc.jT func90 ntmps90 ?_;conv=>arg 2;whnf
 repeat'(first|refine apu ?_|refine wI ?_|refine rR ?_|refine jH ?_|refine hW ?_|refine Ez ?_|refine fy ?_|(refine c7 ?_ ?_)<;>intro _)
 all_goals refine cf _ (dt rfl) ⟨rfl,?_⟩
 all_goals first
  | (simp[fp,q8,u64,i64,IntKind.bits, *];done)
  | (simp[fp,q8,Value.int.injEq,P0];rw[ai U];simp[u64,i64,IntKind.bits, *];done)
  | trace_state
structure ho where
 ck:Int
 num:Int
structure cO where
 op:Int
 dst:Int
 a:ho
 b:ho
 size:Int
 signed:Bool
 hO:Bool
 ref:Int
 off:Int
 args:List ho
structure kt where
 bp:Int
 op:Int
 a:ho
 b:ho
 goto:Int
 dx:Int
structure bT where
 ah:List cO
 av:kt
structure dp where
 name:ByteArray
 params:Int
 hO:Nat
 ae:Int
 bZ:List Int
 blocks:List bT
structure zI where
 bp:Int
 data:List Int
 n:Int
structure CK where
 name:ByteArray
 qM:Int
 size:Int
 dn:List zI
structure fX where
 funcs:List dp
 globals:List CK
 data:Int
 fA:Int
structure c0{α:Type}(h:aV)(A:Option Addr)(w:Nat)(l:List α)(R:List Value->α->Prop):Prop where
 get:∀i x,l[i]?=some x->∃b off cs e,A=some ⟨b,off,none⟩/\h.m b=some ⟨⟨cs⟩,e⟩/\off+i*w+w<=cs.length/\R (cr (off+i*w) w cs) x
def c0.nil{α h A w R}:c0 h A w ([]:List α) R:=⟨λi x aa=>by simp at aa⟩
def c0.mono{α h H A w l}{R a:List Value->α->Prop}(s:c0 h A w l R)(hm:∀i b,h.m i=some b->H.m i=some b)(aM:∀cs x,R cs x->a cs x):c0 H A w l a :=
 ⟨λi x aa=>by have⟨b,off,cs,e,J,f,d,c⟩:=s.get i x aa;exact⟨b,off,cs,e,J,hm _ _ f,d,aM _ _ c⟩⟩
def dX(a:ho):List Value:=[.int .i64 a.ck,.int .i64 a.num]
def kL(cs:List Value)(a:ho):Prop:=cs=dX a
def CP(cs:List Value)(n:Int):Prop:=cs=[.int .i64 n]
def E9(cs:List Value)(n:Int):Prop:=cs=[.int .u8 n]
def cL(x:cO)(A:Option Addr)(c:Nat):List Value:=[.int .i64 x.op,.int .i64 x.dst,.int .i64 x.a.ck,.int .i64 x.a.num,.int .i64 x.b.ck,.int .i64 x.b.num,.int .i64 x.size,.bool x.signed,.bool x.hO,.int .i64 x.ref,.int .i64 x.off,.slice A x.args.length c]
def HU(h:aV)(cs:List Value)(x:cO):Prop:=∃A c,cs=cL x A c/\c0 h A 2 x.args kL
def kr(t:kt):List Value:=[.int .i64 t.bp,.int .i64 t.op,.int .i64 t.a.ck,.int .i64 t.a.num,.int .i64 t.b.ck,.int .i64 t.b.num,.int .i64 t.goto,.int .i64 t.dx]
def kq(b:bT)(A:Option Addr)(c:Nat):List Value:=[.slice A b.ah.length c,.int .i64 b.av.bp,.int .i64 b.av.op,.int .i64 b.av.a.ck,.int .i64 b.av.a.num,.int .i64 b.av.b.ck,.int .i64 b.av.b.num,.int .i64 b.av.goto,.int .i64 b.av.dx]
def yb(h:aV)(cs:List Value)(b:bT):Prop:=∃A c,cs=kq b A c/\c0 h A 12 b.ah (HU h)
def dj(f:dp)(bj:Option Addr)(aW:Nat)(a8:Option Addr)(aT:Nat)(dr:Option Addr)(bn:Nat):List Value:=[.string f.name,.int .i64 f.params,.slice bj f.hO aW,.int .i64 f.ae,.slice a8 f.bZ.length aT,.slice dr f.blocks.length bn]
def Kc(h:aV)(cs:List Value)(f:dp):Prop:=∃bj aW a8 aT dr bn,cs=dj f bj aW a8 aT dr bn/\c0 h a8 1 f.bZ CP/\c0 h dr 9 f.blocks (yb h)
def aEz(p:zI)(A:Option Addr)(c:Nat):List Value:=[.int .i64 p.bp,.slice A p.data.length c,.int .i64 p.n]
def Od(h:aV)(cs:List Value)(p:zI):Prop:=∃A c,cs=aEz p A c/\c0 h A 1 p.data E9
def XA(g:CK)(A:Option Addr)(c:Nat):List Value:=[.string g.name,.int .i64 g.qM,.int .i64 g.size,.slice A g.dn.length c]
def CM(h:aV)(cs:List Value)(g:CK):Prop:=∃A c,cs=XA g A c/\c0 h A 3 g.dn (Od h)
def hd(p:fX)(bj:Option Addr)(aW:Nat)(a8:Option Addr)(aT:Nat):List Value:=[.slice bj p.funcs.length aW,.slice a8 p.globals.length aT,.int .i64 p.data,.int .i64 p.fA]
section
variable{h H:aV} (hm:∀i b,h.m i=some b->H.m i=some b)
include hm
def arn{cs x}(r:HU h cs x):HU H cs x:=by
 have⟨A,c,e,s⟩:=r;exact⟨A,c,e,s.mono hm λ_ _ h=>h⟩
def zP{cs x}(r:yb h cs x):yb H cs x:=by
 have⟨A,c,e,s⟩:=r;exact⟨A,c,e,s.mono hm λ_ _ h=>arn hm h⟩
def Rf{cs x}(r:Kc h cs x):Kc H cs x:=by
 have⟨d,f,j,g,a,c,e,s,t⟩:=r;exact⟨d,f,j,g,a,c,e,s.mono hm λ_ _ h=>h,t.mono hm λ_ _ h=>zP hm h⟩
def afH{cs x}(r:Od h cs x):Od H cs x:=by
 have⟨A,c,e,s⟩:=r;exact⟨A,c,e,s.mono hm λ_ _ h=>h⟩
def AP{cs x}(r:CM h cs x):CM H cs x:=by
 have⟨A,c,e,s⟩:=r;exact⟨A,c,e,s.mono hm λ_ _ h=>afH hm h⟩
end
def ka{cs vs off w j v}(h:cr off w cs=vs)(aE:vs[j]?=some v):cs[off+j]?=some v:=by
 rw[hs] at h;rw[<-h] at aE;rw[tl] at aE;split at aE
 .rw[xq] at aE;exact aE
 .cases aE
def b8(n:Int):Prop:=-9223372036854775808<=n/\n<=9223372036854775807
def ho.ok(a:ho):Prop:=b8 a.ck/\b8 a.num
structure cO.ok(x:cO):Prop where
 op:b8 x.op
 dst:b8 x.dst
 a:x.a.ok
 b:x.b.ok
 size:b8 x.size
 ref:b8 x.ref
 off:b8 x.off
 n:x.args.length<=281474976710656
 args:∀a∈x.args,a.ok
structure kt.ok(x:kt):Prop where
 bp:b8 x.bp
 op:b8 x.op
 a:x.a.ok
 b:x.b.ok
 goto:b8 x.goto
 dx:b8 x.dx
structure bT.ok(x:bT):Prop where
 n:x.ah.length<=281474976710656
 ah:∀a∈x.ah,a.ok
 av:x.av.ok
structure dp.ok(x:dp):Prop where
 params:b8 x.params
 ae:b8 x.ae
 nsec:x.hO<=281474976710656
 ad4:x.bZ.length<=281474976710656
 bZ:∀a∈x.bZ,b8 a
 XC:x.blocks.length<=281474976710656
 blocks:∀a∈x.blocks,a.ok
structure zI.ok(x:zI):Prop where
 bp:b8 x.bp
 n:b8 x.n
 apH:x.data.length<=281474976710656
 data:∀a∈x.data,0<=a/\a<=255
structure CK.ok(x:CK):Prop where
 qM:b8 x.qM
 size:b8 x.size
 apD:x.dn.length<=281474976710656
 dn:∀a∈x.dn,a.ok
structure fX.ok(x:fX):Prop where
 Xx:x.funcs.length<=281474976710656
 funcs:∀a∈x.funcs,a.ok
 Xy:x.globals.length<=281474976710656
 Xz:∀a∈x.globals,a.ok
 data:b8 x.data
 fA:b8 x.fA
def zJ(ae:Int)(l:List ho):Bool:=l.all λa=>decide (-1<=a.ck)&&decide (a.ck<ae)
def bc.aO{P h aw g args v}(aS:(∀i b,h.m i=some b->i<h.n)->bc P g args h v aw):bc P g args h v aw:=λc ρ W a=>aS a.lt c ρ W a
def anU u s v C ae l A c h(w:h.m u=some ⟨⟨v⟩,C⟩)(B:v[s+3]?=some (.int .i64 ae))(E:c0 h A 2 l kL)(ak:l.length<=1000000000000000):
 bc prog 45 ⟨[.pointer (some ⟨u,s,none⟩),.slice A l.length c]⟩ h (.bool (zJ ae l)) h:=by
 refine bc.aO λaq=>?_;refine bc.jT func45 ntmps45 ?_;conv=>arg 2;whnf
 repeat(first|refine Cx ?_|refine mc ?_)
 refine W.loop (X:=Nat) (λπ i=>[(0,.pointer (some ⟨u,s,none⟩)),(7,.slice A l.length c),(8,bm l.length),(9,bm i)]) (λ_=>h) (λπ i=>[]) (λi=>i<=l.length/\(zJ ae l=(l.drop i).all λa=>decide (-1<=a.ck)&&decide (a.ck<ae))) (λi=>l.length-i) [] 0 ⟨dG _,rfl⟩ kh ?_;rintro π i ⟨ag,f⟩;dsimp only at ag f|-;by_cases bs:i<l.length
 .have⟨a,j⟩:=cR l i bs;obtain⟨F,G,L,D,rfl,cF,EE,uR⟩:=E.get i a j;have k8:=aq _ _ cF;have z:l.drop i=a::l.drop (i+1):=by
   rw[sq bs];rw[ey bs] at j;injection j with j;rw[j]
  rw[z,List.all_cons] at f;repeat'(first|refine er ?_|refine qi ?_|refine zo ?_|refine jj ?_|refine k7 ?_|refine q0 ?_|refine hW ?_|refine Ew ?_|refine fy ?_|refine W6 ?_|apply ad.dv;rfl;rfl;rfl;exact w;exact aq _ _ w;exact B|(refine c7 ?_ ?_)<;>intro _)
  .refine cf _ (dt rfl) ⟨rfl,?_⟩;rw[f];simp[fp];omega
  .refine cf _ (dt rfl) ⟨rfl,?_⟩;rw[f];simp[fp];omega
  .exact mW (i+1) [] rfl rfl ⟨U,by rw[f];simp;omega⟩ U kh
 .repeat(first|refine EH ?_|refine CD ?_)
  refine cf _ (dt rfl) ⟨rfl,?_⟩;rw[f,np U];rfl
end
section
attribute[local irreducible] W ad
def arp t(aj:t.bp=1) h:bc prog 49 ⟨[.agg ⟨kr t⟩]⟩ h (.slice (some ⟨h.n,0,none⟩) 1 1) (h.push ⟨⟨[.int .i64 t.goto]⟩,3⟩):=by
 refine bc.ends (c:=(f49.body.getD .skip)) (Q:=Bc (λ_=>[bm t.goto]) 3 1 1 h) func49 ax ntmps49 ax ?_ (CZ aF);conv=>arg 2;whnf
 repeat(first|refine gP ?_|refine wH ?_|refine iR ?_|refine oS ?_|refine Hi ?_|refine fy ?_)
 repeat'(first|(refine c7 ?_ ?_)<;>intro _)
 all_goals exact Jb
def arq t(aj:t.bp=2) h:bc prog 49 ⟨[.agg ⟨kr t⟩]⟩ h (.slice (some ⟨h.n,0,none⟩) 2 2) (h.push ⟨⟨[.int .i64 t.goto,.int .i64 t.dx]⟩,3⟩):=by
 refine bc.ends (c:=(f49.body.getD .skip)) (Q:=Bc (λ_=>[bm t.goto,bm t.dx]) 3 2 2 h) func49 ax ntmps49 ax ?_ (CZ aF);conv=>arg 2;whnf
 repeat(first|refine gP ?_|refine wH ?_|refine nC ?_|refine oS ?_|refine EI ?_)
 repeat'(first|(refine c7 ?_ ?_)<;>intro _)
 all_goals exact Jb
def ars t(J:t.bp≠1)(ab:t.bp≠2) h:bc prog 49 ⟨[.agg ⟨kr t⟩]⟩ h (.slice none 0 0) h:=by
 refine bc.jT func49 ntmps49 ?_;conv=>arg 2;whnf
 repeat(first|refine wH ?_|refine hL ?_|refine oS ?_|refine Na ?_|refine ou ?_)
 repeat'(first|(refine c7 ?_ ?_)<;>intro _)
 all_goals exact GO
def art t(aj:t.bp=2) h:bc prog 48 ⟨[.agg ⟨kr t⟩]⟩ h (.slice (some ⟨h.n,0,none⟩) 2 2) (h.push ⟨⟨dX t.a++dX t.b⟩,38⟩):=by
 refine bc.ends (c:=(f48.body.getD .skip)) (Q:=Bc (λ_=>dX t.a++dX t.b) 38 2 2 h) func48 ax ntmps48 ax ?_ (CZ yL);conv=>arg 2;whnf
 repeat(first|refine gP ?_|refine wH ?_|refine iR ?_|refine pz ?_|refine c8 ?_|refine Hi ?_|refine fy ?_)
 repeat'(first|(refine c7 ?_ ?_)<;>intro _)
 all_goals exact Jb
def aru t(aj:t.bp=3) h:bc prog 48 ⟨[.agg ⟨kr t⟩]⟩ h (.slice (some ⟨h.n,0,none⟩) 1 1) (h.push ⟨⟨dX t.a⟩,38⟩):=by
 refine bc.ends (c:=(f48.body.getD .skip)) (Q:=Bc (λ_=>dX t.a) 38 1 1 h) func48 ax ntmps48 ax ?_ (CZ yL);conv=>arg 2;whnf
 repeat(first|refine gP ?_|refine wH ?_|refine nC ?_|refine pz ?_|refine c8 ?_|refine EI ?_)
 repeat'(first|(refine c7 ?_ ?_)<;>intro _)
 all_goals exact Jb
def arv t(J:t.bp≠2)(ab:t.bp≠3) h:bc prog 48 ⟨[.agg ⟨kr t⟩]⟩ h (.slice none 0 0) h:=by
 refine bc.jT func48 ntmps48 ?_;conv=>arg 2;whnf
 repeat(first|refine wH ?_|refine hL ?_|refine oS ?_|refine Na ?_|refine ou ?_)
 repeat'(first|(refine c7 ?_ ?_)<;>intro _)
 all_goals exact GO
def arw x A c(aj:e6 x.op=true\/x.op=27) h:bc prog 46 ⟨[.agg ⟨cL x A c⟩]⟩ h (.slice (some ⟨h.n,0,none⟩) 2 2) (h.push ⟨⟨dX x.a++dX x.b⟩,38⟩):=by
 refine bc.ends (c:=(f46.body.getD .skip)) (Q:=Bc (λ_=>dX x.a++dX x.b) 38 2 2 h) func46 ax ntmps46 ax ?_ (CZ yL);conv=>arg 2;whnf
 repeat'(first|refine gP ?_|refine Ey ?_|refine rR ?_|refine pz ?_|refine RE ?_|refine fy ?_|refine adu ?_|(refine c7 ?_ ?_)<;>intro _)
 all_goals first
  | exact Jb
  | (exfalso;simp[e6,cA,ed,I7,yE] at *;omega)
def arx x A c(h0:e6 x.op=false)(J:¬(23<=x.op/\x.op<=25))(ab:¬(27<=x.op/\x.op<=29)) h:bc prog 46 ⟨[.agg ⟨cL x A c⟩]⟩ h (.slice (some ⟨h.n,0,none⟩) 1 1) (h.push ⟨⟨dX x.a⟩,38⟩):=by
 refine bc.ends (c:=(f46.body.getD .skip)) (Q:=Bc (λ_=>dX x.a) 38 1 1 h) func46 ax ntmps46 ax ?_ (CZ yL);conv=>arg 2;whnf
 repeat'(first|refine adu ?_|refine gP ?_|refine Ey ?_|refine vx ?_|refine hL ?_|refine pz ?_|refine CC ?_|(refine c7 ?_ ?_)<;>intro _)
 all_goals first
  | exact Jb
  | (exfalso;simp[e6,cA,ed,I7,yE] at *;omega)
def ary x A c(h0:23<=x.op/\x.op<=25) h:bc prog 46 ⟨[.agg ⟨cL x A c⟩]⟩ h (.slice none 0 0) h:=by
 refine bc.jT func46 ntmps46 ?_;conv=>arg 2;whnf
 repeat'(first|refine adu ?_|refine gP ?_|refine Ey ?_|refine pA ?_|refine pv ?_|refine pz ?_|refine hW ?_|refine EI ?_|(refine c7 ?_ ?_)<;>intro _)
 all_goals first
  | exact GO
  | (exfalso;simp[e6,cA,ed,I7,yE] at *;omega)
def bc.withArgs{P h aw g args v}(aS:(∀x∈args,bw h.n x)->bc P g args h v aw):bc P g args h v aw:=λa=>aS a a
def aEA{x A c n}(h:∀v∈(⟨[.agg ⟨cL x A c⟩]⟩:Array Value),bw n v):∀m,bw n (.slice A m c):=by
 intro m;have J:=h (.agg ⟨cL x A c⟩) aF;simp[qK] at J;have ab:=J (.slice A x.args.length c) (by simp[cL]);rcases A with _|a
 .exact aF
 .exact tn
def api x A c(h0:x.op=28) h:bc prog 46 ⟨[.agg ⟨cL x A c⟩]⟩ h (.slice A x.args.length c) h:=by
 refine bc.withArgs λz=>?_;refine bc.ends (c:=(f46.body.getD .skip)) (Q:=λvs aw=>aw.bD=h/\fp vs=.slice A x.args.length c) func46 ax ntmps46 ax ?_ (λvs aw w aG s f=>?_)
 .conv=>arg 2;whnf
  repeat(first|refine wH ?_|refine iR ?_|refine oS ?_|refine Hi ?_|refine fy ?_)
  repeat'(first|(refine c7 ?_ ?_)<;>intro _)
  all_goals first
   | exact GO
   | (exfalso;simp[e6,cA,ed,I7,yE] at *;omega)
 .have⟨j,u⟩:=aG;rw[u] at f;have I:=aEA z x.args.length;refine(f (hc ?_ _ I)).am8 I (λi ag=>s i ag j);have:=w.jC;rw[j] at this;exact dm
def fN(l:List ho):List Value:=l.flatMap dX
def abw l:(fN l).length=l.length*2:=by
 induction l with
 | nil=>rfl
 | cons a l c=>simp[fN,List.flatMap_cons,iM,e5] at c|-;rw[c];simp[dX];omega
def adR{l i a}(h:l[i]?=some a):cr (0+i*2) 2 (fN l)=dX a:=by
 induction l generalizing i with
 | nil=>simp at h
 | cons u l aP =>
  rcases i with _|i
  .simp[kC,dh] at h;subst h;rw[hs];simp[fN,dX]
  .have J:=aP lM;rw[hs] at J|-;have e:fN (u::l)=dX u++fN l:=rfl;have a1:0+(i+1)*2=(dX u).length+(0+i*2):=by show _=2+_;omega
   rwa[e,a1,<-xt,List.drop_left]
def arz{cs off}:∀{l:List ho},off+l.length*2<=cs.length->(∀i a,l[i]?=some a->cr (off+i*2) 2 cs=dX a)->cr off (l.length*2) cs=fN l:=by
 intro l;induction l generalizing off with
 | nil=>intro _ _;rw[hs];simp[fN]
 | cons u l d =>
  intro c h;have h0:=h 0 u rfl;simp[e5] at c;have J:=d (off:=off+2) U (λi a f=>by have:=h (i+1) a (by simpa using f);rwa[show off+2+i*2=off+(i+1)*2 by omega]);rw[hs] at h0 J|-;rw[show off+0*2=off by omega] at h0;have e:fN (u::l)=dX u++fN l:=rfl;rw[e,<-h0,<-J,e5,show(l.length+1)*2=2+l.length*2 by omega,List.take_add,xt]
def Oe(x:cO):Nat:=if 0<x.args.length then dF 2 else 1
def arA x A c(h0:x.op=29)(ak:x.args.length<=1000000000) h(D:c0 h A 2 x.args kL):bc prog 46 ⟨[.agg ⟨cL x A c⟩]⟩ h (.slice (some ⟨h.n,0,none⟩) (1+x.args.length) (Oe x)) (h.push ⟨⟨fN (x.a::x.args)⟩,38⟩):=by
 have V1:∀v∈fN (x.a::x.args),bw h.n v:=by
  intro v aE;simp only[fN,aaU,dX,dI,jP,j6] at aE;obtain⟨a,_,rfl|rfl⟩:=aE<;>simp
 refine bc.aO λaq=>?_;by_cases s:0<x.args.length
 .have u:Oe x=dF 2:=by rw[Oe,au s]
  rw[u];have⟨a0,B⟩:=cR x.args 0 s;obtain⟨b,off,cs,e,rfl,w,_,_⟩:=D.get 0 a0 B;have C:∀i a,x.args[i]?=some a->off+i*2+2<=cs.length/\cr (off+i*2) 2 cs=dX a:=by
   intro i a ag;have⟨b',off',cs',L,z,j,F,G⟩:=D.get i a ag;injection z with z;cases z;rw[w] at j;injection j with j;injection j with j M;cases j;exact⟨F,G⟩
  have E:off+x.args.length*2<=cs.length:=by
   have:=(C (x.args.length-1) _ (ey U)).1;omega
  refine bc.ends (c:=(f46.body.getD .skip)) (Q:=Bc (λ_=>fN (x.a::x.args)) 38 (1+x.args.length) (dF 2) h) func46 ax ntmps46 ax ?_ (CZ V1);conv=>arg 2;whnf
  repeat(first|refine gP ?_|refine wH ?_|refine nC ?_|refine pz ?_|refine c8 ?_|refine EI ?_|apply ad.aEB;(iterate 9 rfl);decide;exact w;exact aq _ _ w;exact E;exact s;(show(1+_)*16<=_;omega);omega)
  repeat'(first|(refine c7 ?_ ?_)<;>intro _)
  all_goals first
   | (refine cf _ (dt rfl) ⟨rfl, 2, dN 2, ?_, rfl⟩
      show some (cd.mk ⟨dX x.a++cr off (x.args.length*2) cs⟩ 38)=some (cd.mk ⟨fN (x.a::x.args)⟩ 38);rw[arz E λi a ag=>(C i a ag).2];rfl)
   | (exfalso;simp[e6,cA,ed,I7,yE] at *;omega)
 .have u:Oe x=1:=by rw[Oe,ai s]
  rw[u];have f:x.args.length=0:=U;have amb:=Gt f;rw[f,nq,amb];refine bc.ends (c:=(f46.body.getD .skip)) (Q:=Bc (λ_=>fN [x.a]) 38 1 1 h) func46 ax ntmps46 ax ?_ (CZ ayS);conv=>arg 2;whnf
  repeat(first|refine gP ?_|refine wH ?_|refine nC ?_|refine pz ?_|refine c8 ?_|refine EI ?_|apply ad.aEC;(iterate 4 rfl);exact f;decide;exact xE;kernel_rfl)
  repeat'(first|(refine c7 ?_ ?_)<;>intro _)
  all_goals first
   | exact Jb
   | (exfalso;simp[e6,cA,ed,I7,yE] at *;omega)
end
end Go.Proofs.YtplleokmejppjaaGreatDoor
