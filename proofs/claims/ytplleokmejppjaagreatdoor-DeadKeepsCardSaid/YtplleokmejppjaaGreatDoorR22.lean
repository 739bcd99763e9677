/- Contracts of functions that the law reaches -/
import Derived.Test.YtplleokmejppjaaGreatDoorR5
set_option linter.all false
set_option maxHeartbeats 9999999
set_option maxRecDepth 100000
namespace Go.Proofs.YtplleokmejppjaaGreatDoor
open Go.Proofs.Tryz
open Go.AH
attribute[local irreducible] W ad
def anH:ByteArray:=⟨#[48,48,48,49,48,50,48,51,48,52,48,53,48,54,48,55,48,56,48,57,49,48,49,49,49,50,49,51,49,52,49,53,49,54,49,55,49,56,49,57,50,48,50,49,50,50,50,51,50,52,50,53,50,54,50,55,50,56,50,57,51,48,51,49,51,50,51,51,51,52,51,53,51,54,51,55,51,56,51,57,52,48,52,49,52,50,52,51,52,52,52,53,52,54,52,55,52,56,52,57,53,48,53,49,53,50,53,51,53,52,53,53,53,54,53,55,53,56,53,57,54,48,54,49,54,50,54,51,54,52,54,53,54,54,54,55,54,56,54,57,55,48,55,49,55,50,55,51,55,52,55,53,55,54,55,55,55,56,55,57,56,48,56,49,56,50,56,51,56,52,56,53,56,54,56,55,56,56,56,57,57,48,57,49,57,50,57,51,57,52,57,53,57,54,57,55,57,56,57,57]⟩
def w8(n:Nat):Int:=YJ anH n
def YK(d:List Int)(off i u:Nat):List Int :=
 (((((((d.set (off+(i-1)*1) (w8 (u%10000%100*2+1))).set (off+(i-2)*1) (w8 (u%10000%100*2))).set (off+(i-3)*1) (w8 (u%10000/100*2+1))).set (off+(i-4)*1) (w8 (u%10000/100*2))).set (off+(i-5)*1) (w8 (u/10000%100*2+1))).set (off+(i-6)*1) (w8 (u/10000%100*2))).set (off+(i-7)*1) (w8 (u/10000/100*2+1))).set (off+(i-8)*1) (w8 (u/10000/100*2))
def Bo:Nat->Nat->Nat->Nat->List Int->Nat×Nat×List Int
 | 0,_,i,u,d=>(i,u,d)
 | k+1,off,i,u,d=>if 8<=i then Bo k off (i-8) (u/100000000) (YK d off i (u%100000000%4294967296)) else(i,u,d)
def Bp(off:Nat)(x:Nat×Nat×List Int):Nat×Nat×List Int :=
 if 4<=x.1 then(x.1-4,x.2.1/10000,(((x.2.2.set (off+(x.1-1)*1) (w8 (x.2.1%10000%100*2+1))).set (off+(x.1-2)*1) (w8 (x.2.1%10000%100*2))).set (off+(x.1-3)*1) (w8 (x.2.1%10000/100*2+1))).set (off+(x.1-4)*1) (w8 (x.2.1%10000/100*2))) else x
def Bq(off:Nat)(x:Nat×Nat×List Int):Nat×Nat×List Int :=
 if 2<=x.1 then(x.1-2,x.2.1/100,(x.2.2.set (off+(x.1-1)*1) (w8 (x.2.1%100*2+1))).set (off+(x.1-2)*1) (w8 (x.2.1%100*2))) else x
def Br(off:Nat)(x:Nat×Nat×List Int):List Int :=
 if 0<x.1 then x.2.2.set (off+0*1) (IntKind.u8.wrap (IntKind.u32.wrap (48+(x.2.1:Int)))) else x.2.2
def fmtS(off N u:Nat)(d:List Int):List Int:=Br off (Bq off (Bp off ((Bo N off N u d).1,(Bo N off N u d).2.1%4294967296,(Bo N off N u d).2.2)))
def Ct(h:aV)i b:(h.set i b).m i=some b:=ak0
def ass d off i u:(YK d off i u).length=d.length:=by simp[YK]
def aF9{k off i u d}(h:i<8):Bo k off i u d=(i,u,d):=by
 rcases k with _|k
 .rfl
 .rw[Bo,ai U]
def jY{h B a b}(o:cT (λi=>i=a) h B):cT (λi=>i=a) h (B.set a b) :=
 ⟨o.1,λi ag ak=>by show(if i=a then _ else _)=_;exact ai ak▸o.2 i ag ak⟩
def ast(a off N cap u:Nat)d e(O:N<=1000)(hu:u<=18446744073709551615)(aq:off+N<=d.length) h(L:h.m a=some ⟨⟨Cu d⟩,e⟩)(MZ:df<=a):
 dw prog 98 [.slice (some ⟨a,off,none⟩) N cap,.int .u64 (u:Int)] h (λv aw=>v=.tuple #[]/\aw.m a=some ⟨⟨Cu (fmtS off N u d)⟩,e⟩/\cT (λi=>i=a) h aw):=by
 refine dw.intro (c:=(f98.body.getD .skip)) func98 ax ntmps98 ax λπ Q=>?_;conv=>arg 2;whnf
 repeat(first|refine Cx ?_|refine mc ?_)
 refine W.hz (X:=Nat×Nat×List Int) (λx=>[(0,.slice (some ⟨a,off,none⟩) N cap),(1,.int .u64 (x.2.1:Int)),(4,.int .i64 (x.1:Int))])
  (λx B=>x.1<=N/\x.2.1<=18446744073709551615/\x.2.2.length=d.length/\B.m a=some ⟨⟨Cu x.2.2⟩,e⟩/\cT (λi=>i=a) h B/\∃k,x.1<=k/\Bo k off x.1 x.2.1 x.2.2=Bo N off N u d) (λx=>x.1)
  (λz y=>⟨(N,u,d),?_,⟨b4 _,hu,rfl,y.up _ _ L,y.bk.off,N,b4 _,rfl⟩⟩) ?_
 .exact ca
 rintro x B M F ⟨ag,G,D,c5,j,k,aj,f⟩;generalize R:x.1=i at *;generalize x.2.1=A at *;generalize x.2.2=E at *;have WB:=F.aO _ _ c5;by_cases C:8<=i
 .repeat(first|apply(ad.acX (b:=100000000));(iterate 4 rfl);omega;(first|exact wrap32 U|exact wrap64 U)|refine Rk ?_|refine JV ?_|apply(ad.ac7 (b:=100000000));(iterate 4 rfl);omega|refine Rv ?_|refine J3 ?_|refine JW ?_|refine JX ?_|refine J4 ?_|refine J5 ?_|refine Rw ?_|refine Rx ?_|apply(ad.subNat (b:=5));(iterate 4 rfl);omega|apply(ad.subNat (b:=6));(iterate 4 rfl);omega|apply(ad.subNat (b:=7));(iterate 4 rfl);omega|apply(ad.subNat (b:=8));(iterate 4 rfl);omega|refine ED ?_|refine J2 ?_|refine er ?_|refine Hh ?_|refine fi ?_|refine iR ?_|refine kW ?_)
  refine eK rfl λz y=>⟨(i-8,A/100000000,YK E off i (A%100000000%4294967296)),?_,⟨by show i-8<=N;omega,by show A/100000000<=_;omega,(ass _ _ _ _).trans D,y.up _ _ (Ct _ _ _),?_,?_⟩,by show i-8<x.1;omega⟩
  .exact ca
  .exact(jY (jY (jY (jY (jY (jY (jY (jY j)))))))).dB y.bk.off
  .obtain⟨k',rfl⟩:∃k',k=k'+1:=⟨k-1,U⟩;rw[Bo,au C] at f;exact⟨k',by show i-8<=k';omega,f⟩
 .rw[aF9 U] at f;by_cases br:4<=i
  .by_cases w:2<=i-4
   .by_cases J:0<i-4-2
    .repeat(first|refine Rk ?_|refine JV ?_|refine Rv ?_|refine J3 ?_|refine JW ?_|refine JX ?_|refine J4 ?_|refine J5 ?_|refine Rw ?_|refine Rx ?_|refine ED ?_|refine J2 ?_|refine Xi ?_|refine er ?_|refine Hh ?_|refine wI ?_|refine nC ?_|refine k7 ?_|refine c8 ?_|refine Nf ?_|refine q1 ?_)
     refine sx [] .nil λz y=>⟨rfl,y.up _ _ (B0 (Ct _ _ _) ?_),(jY (jY (jY (jY (jY (jY (jY (j)))))))).dB y.bk.off⟩;rw[fmtS,<-f];simp[Bp,Bq,Br,au br,au w,au J]<;>rfl
    .repeat(first|refine Rk ?_|refine JV ?_|refine Rv ?_|refine J3 ?_|refine JW ?_|refine JX ?_|refine J4 ?_|refine J5 ?_|refine Rw ?_|refine Rx ?_|refine ED ?_|refine J2 ?_|refine er ?_|refine Hh ?_|refine fi ?_|refine nC ?_|refine c8 ?_|refine JY ?_|refine q1 ?_)
     refine sx [] .nil λz y=>⟨rfl,y.up _ _ (B0 (Ct _ _ _) ?_),(jY (jY (jY (jY (jY (jY (j))))))).dB y.bk.off⟩;rw[fmtS,<-f];simp[Bp,Bq,Br,au br,au w,ai J]<;>rfl
   .by_cases J:0<i-4
    .repeat(first|refine Rk ?_|refine JV ?_|refine Rv ?_|refine J3 ?_|refine JW ?_|refine JX ?_|refine J4 ?_|refine J5 ?_|refine Rw ?_|refine Rx ?_|refine ED ?_|refine J2 ?_|refine Xi ?_|refine er ?_|refine Hh ?_|refine wI ?_|refine nC ?_|refine k7 ?_|refine c8 ?_|refine JY ?_|refine q1 ?_)
     refine sx [] .nil λz y=>⟨rfl,y.up _ _ (B0 (Ct _ _ _) ?_),(jY (jY (jY (jY (jY (j)))))).dB y.bk.off⟩;rw[fmtS,<-f];simp[Bp,Bq,Br,au br,ai w,au J]<;>rfl
    .repeat(first|refine Rk ?_|refine JV ?_|refine Rv ?_|refine J3 ?_|refine JW ?_|refine JX ?_|refine J4 ?_|refine J5 ?_|refine Rw ?_|refine Rx ?_|refine ED ?_|refine J2 ?_|refine er ?_|refine Hh ?_|refine fi ?_|refine nC ?_|refine c8 ?_|refine JY ?_|refine q1 ?_)
     refine sx [] .nil λz y=>⟨rfl,y.up _ _ (B0 (Ct _ _ _) ?_),(jY (jY (jY (jY (j))))).dB y.bk.off⟩;rw[fmtS,<-f];simp[Bp,Bq,Br,au br,ai w,ai J]<;>rfl
  .by_cases w:2<=i
   .by_cases J:0<i-2
    .repeat(first|refine JV ?_|refine J3 ?_|refine JW ?_|refine JX ?_|refine J4 ?_|refine J5 ?_|refine ED ?_|refine J2 ?_|refine Xi ?_|refine er ?_|refine Hh ?_|refine wI ?_|refine nC ?_|refine k7 ?_|refine c8 ?_|refine JY ?_|refine q1 ?_)
     refine sx [] .nil λz y=>⟨rfl,y.up _ _ (B0 (Ct _ _ _) ?_),(jY (jY (jY (j)))).dB y.bk.off⟩;rw[fmtS,<-f];simp[Bp,Bq,Br,ai br,au w,au J]<;>rfl
    .repeat(first|refine JV ?_|refine J3 ?_|refine JW ?_|refine JX ?_|refine J4 ?_|refine J5 ?_|refine ED ?_|refine J2 ?_|refine er ?_|refine Hh ?_|refine fi ?_|refine nC ?_|refine c8 ?_|refine JY ?_|refine q1 ?_)
     refine sx [] .nil λz y=>⟨rfl,y.up _ _ (B0 (Ct _ _ _) ?_),(jY (jY (j))).dB y.bk.off⟩;rw[fmtS,<-f];simp[Bp,Bq,Br,ai br,au w,ai J]<;>rfl
   .by_cases J:0<i
    .repeat(first|refine ED ?_|refine Xi ?_|refine Hh ?_|refine wI ?_|refine nC ?_|refine k7 ?_|refine c8 ?_|refine JY ?_|refine q1 ?_)
     refine sx [] .nil λz y=>⟨rfl,y.up _ _ (B0 (Ct _ _ _) ?_),(jY (j)).dB y.bk.off⟩;unfold fmtS;rw[<-f];simp only[Bp,Bq,Br,ai br,ai w,au J]<;>rfl
    .repeat(first|refine ED ?_|refine fi ?_|refine nD ?_|refine JY ?_|refine lC ?_)
     refine sx [] .nil λz y=>⟨rfl,y.up _ _ (B0 c5 ?_),(j).dB y.bk.off⟩;unfold fmtS;rw[<-f];simp only[Bp,Bq,Br,ai br,ai w,ai J]<;>rfl
end Go.Proofs.YtplleokmejppjaaGreatDoor
