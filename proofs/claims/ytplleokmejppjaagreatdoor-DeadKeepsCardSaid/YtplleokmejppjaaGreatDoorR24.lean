/- Contracts of functions that the law reaches -/
import Derived.Lib.AppendStr
import Derived.Lib.Hide
import Derived.WalkKit
import Derived.WalkSpells
import Derived.Test.YtplleokmejppjaaGreatDoorR23
set_option linter.all false
set_option maxHeartbeats 9999999
set_option maxRecDepth 100000
namespace Go.Proofs.YtplleokmejppjaaGreatDoor
open Go.Proofs.Tryz
open Go.RowKit
open Go.AH
def FC(B b K:Nat)(iz:List Value)(w:World):Prop :=
 B<=b/\∃g cap cur,w.heap[b]?=some (.cells #[.pointer (some ⟨b,0,none⟩),.slice (some ⟨g,0,none⟩) iz.length cap] 104 (0,0))/\B<=g/\g≠b/\w.heap[g]?=some (.cells cur 5 (0,0))/\iz.length<=cap/\K<=cap/\cap<=maxLen/\cur.size=cap/\cur.toList.take iz.length=iz
def FC.builder{B b K iz w}(h:FC B b K iz w):Lib.BuilderAt 104 5 B b (.pointer (some ⟨b,0,none⟩)) iz w:=by
 have⟨cF,g,cap,cur,J,ab,aK,br,cz,gx,j7,w9,Bt⟩:=h;refine⟨cF,_,J,⟨aF,.inr ⟨g,cap,cur,rfl,ab,br,cz,j7,by simpa using w9,by simpa using Bt⟩⟩,?_⟩;simp[Value.ownBlock,aK]
def FC.of{B b K w p H9}(h:Lib.BuilderAt 104 5 B b (.pointer (some ⟨b,0,none⟩)) [] w)(aB:w.cell? ⟨b,1,none⟩=some (.slice p 0 H9))(du:K<=H9)(h0:0<K):FC B b K [] w:=by
 have⟨cF,v,ht,tP,bM⟩:=h;have aW:w.cell? ⟨b,1,none⟩=some v:=by rw[Lib.cell_of_heap ht];rfl
 rw[aB] at aW;injection aW with aW;rcases tP.2 with⟨aE,_⟩|⟨g,cap,cur,aE,g1,g2,g3,g4,g5,g6⟩
 .rw[aE] at aW;injection aW with _ _ e;omega
 .rw[aE] at aW ht bM;cases aW;refine⟨cF,g,H9,cur,ht,g1,?_,g2,aF,du,g4,by simpa using g5,aF⟩;intro e;subst e;exact bM rfl
def wpList_room{P w an sd o a Q}(acI:o.guard=none)gK x t u(aH:o.op=.call {callee:=.builtin .append,args:=#[gK,x],argTypes:=#[t,u]}) e i(aS:P.underlying t=some (.slice e))(hu:P.underlying u=some .string)(ag:P.info? e=some i)(aGU:i.size=1) g n cap cur(aC:a.eval gK=.slice (some ⟨g,0,none⟩) n cap)(bf:w.heap[g]?=some (.cells cur e (0,0))) s(aa:a.eval x=.string s)(nZ:n+s.size<=cap)(qN:n+s.size<=cur.size)(h:∀w',Hid (w'=w.setRow g (cur.toList.take n++Lib.strCells s++cur.toList.drop (n+s.size)).toArray)->wpList P an Q sd (a.put o.dst (.slice (some ⟨g,0,none⟩) (n+s.size) cap)) w'):wpList P an Q (o::sd) a w:=by
 refine wpList_plain acI λK du=>?_;unfold Oper.wp execOp;simp only[aH,resolve,invoke,builtin,gG,hQ,hj,so,gg,oH,aC,aa,Lib.run_append_room_string (P:=P) w t u o.type e i aS hu ag aGU g n cap cur bf s nZ qN];exact du _ _ (h _ (Lib.hid rfl))
def agw B b K c s w(h:FC B b K c w)(N:c.length+s.size<=K):
 Calls prog 53 #[.pointer (some ⟨b,0,none⟩),.string s] w λe w'=>e=.returned (.tuple #[.int .i64 s.size,.nilIface])/\FC B b K (c++Lib.strCells s) w'/\Below B w w':=by
 have⟨i0,ag,H,y,O⟩:=info_parts Tryz.Sv.infoByte;have⟨cF,g,cap,cur,J,I,l,r,M,G,E,L,R⟩:=h;have F:w.cell? ⟨b,0,none⟩=some (.pointer (some ⟨b,0,none⟩)):=by rw[Lib.cell_of_heap J];rfl
 have aW:w.cell? ⟨b,1,none⟩=some (.slice (some ⟨g,0,none⟩) c.length cap):=by rw[Lib.cell_of_heap J];rfl
 go_enter func53,ntmps53
 go_wp2_with fail
 refine(Any.Builder_copyCheck_used {Tryz.YL with} Tryz.Sv.toX72 b _ F).mono ?_;rintro e d ⟨rfl,rfl⟩
 go_wp2_with (at_builtin;refine wpList_room rfl _ _ 26 9 rfl 5 i0 Tryz.underlying26 Tryz.underlying9 ag y g c.length cap cur rfl r s rfl U U ?_)
 intro C j;have j:=j.out;have f:=(setRow_other d g b (c++(Lib.strCells s++cur.toList.drop (c.length+s.size))).toArray (PO l)).trans J;have A:=setRow_heap d g cur (c++(Lib.strCells s++cur.toList.drop (c.length+s.size))).toArray _ _ r;have D:((c++(Lib.strCells s++cur.toList.drop (c.length+s.size))).toArray).size=cap:=by
  simp[BU,iM,P4,Ap,Lib.strCells_length];omega
 have z:((c++(Lib.strCells s++cur.toList.drop (c.length+s.size))).toArray).toList.take (c++Lib.strCells s).length=c++Lib.strCells s:=by
  rw[<-pX];exact List.take_left
 have q:Below B d (d.setRow g (c++(Lib.strCells s++cur.toList.drop (c.length+s.size))).toArray):=⟨rfl,rfl,rfl,aF,λk aj=>setRow_other d g k _ U⟩;rw[<-j] at f A q;clear j;generalize(c++(Lib.strCells s++cur.toList.drop (c.length+s.size))).toArray=m at *;have d1:C.cell? ⟨b,1,none⟩=some (.slice (some ⟨g,0,none⟩) c.length cap):=by rw[Lib.cell_of_heap f];rfl
 have f1:=Lib.frozen_of_heap f 1
 go_wp2
 go_ret2
 refine⟨rfl,⟨cF,g,cap,m,?_,I,l,by rwa[Below.heap_setCell _ _ _ _ l],by rw[iM,Lib.strCells_length];omega,G,E,D,z⟩,q.setCell cF _⟩
 .have e:(c++Lib.strCells s).length=c.length+s.size:=by rw[iM,Lib.strCells_length]
  rw[e];simp[World.setCell,aaH,f]
def aGW{B b K l w}(h:FC B b K (Lib.byteCells l) w):Lib.IsBuilder 104 5 B b (Lib.byteCells l) w:=.inr h.builder
def tU(c4 x0:List UInt8)(r:List (List UInt8))(k:Nat):List UInt8:=x0++Lib.joinTail c4 (r.take k)
def aGX{c4 x0 r k y}(h:r[k]?=some y):tU c4 x0 r (k+1)=tU c4 x0 r k++c4++y:=by
 unfold tU;rw[Lib.joinTail_take_succ c4 r k y h];simp[pX]
def aGY c4 x0 r k:(tU c4 x0 r k).length<=(Lib.join (x0::r) c4).length:=by
 rw[tU,Lib.join_cons,iM,iM];have:=Lib.joinTail_take_le c4 r k;omega
def aGZ c4 x0 r:tU c4 x0 r r.length=Lib.join (x0::r) c4:=by
 rw[tU,mv,Lib.join_cons]
def aG0 d o c x0 r c4 w(z1:∀(j:Nat) x,(x0::r)[j]?=some x->w.cell? ⟨d,o+j,none⟩=some (.string x))(ht:d<w.heap.size) N(m:N=r.length+1)(ab:2<=N)(cj:N<=140737488355328)(kH:N<=c) K(du:(Lib.join ((x0::r).map (·.data.toList)) c4.data.toList).length=K)(h0:0<K)(dO:K<=281474976710656):
 Calls prog 33 #[.slice (some ⟨d,o,none⟩) N c,.string c4] w λe w'=>e=.returned (.string ⟨(Lib.join ((x0::r).map (·.data.toList)) c4.data.toList).toArray⟩)/\Below w.heap.size w w':=by
 have l:=Lib.hid z1;clear z1;have Oc:c4.size*(N-1)+Lib.lens ((x0::r).map (·.data.toList))=K:=by
  rw[<-du,gg,Lib.join_length,fI,Lib.size_eq,m,Nat.add_sub_cancel]
 have aG1:=Lib.hid du;have f:=Lib.hid m;clear du m;have D:c4.size*(N-1)<=281474976710656:=U;generalize R:c4.size*(N-1)=M at Oc D;have u:((N:Int)-1)=((N-1:Nat):Int):=U;have bs:c4.size<9223372036854775807/(N-1):=by
  have:c4.size+1<=9223372036854775807/(N-1):=by
   rw[Up U,DT,R];omega
  omega
 have aR3:¬(9223372036854775807/((N:Int)-1)<=(c4.size:Int)):=by
  have e:(9223372036854775807:Int)/((N-1:Nat):Int)=((9223372036854775807/(N-1):Nat):Int):=IntWalk.up_div (x:=9223372036854775807) rfl rfl;rw[u,e];generalize 9223372036854775807/(N-1)=q at bs;omega
 have aR4:wrap64 ((c4.size:Int)*((N:Int)-1))=(M:Int):=by
  have e:(c4.size:Int)*((N-1:Nat):Int)=((c4.size*(N-1):Nat):Int):=IntWalk.up_mul rfl rfl;rw[u,e,R];exact IntWalk.wrap64_in _ ⟨U,U⟩
 have V:c4.size=0->M=0:=λh=>by rw[<-R,h,I4]
 clear bs u;have aR5:((N:Int)==0)=false:=beq_eq_false_iff_ne.2 U;have aR6:((N:Int)==1)=false:=beq_eq_false_iff_ne.2 U
 go_enter func33,ntmps33
 go_wp2_with fail
 all_goals(
  go_loop [5,41] (λn i=>∃k:Nat,k<=N/\i=.int .i64 k/\n=.int .i64 ((M+Lib.lens (((x0::r).map (·.data.toList)).take k):Nat):Int)) (λ_ i=>N-(intOf i).toNat)
  case atStart=>exact⟨0,dG _,rfl,by first|simp[Lib.lens];done|have:=V U;simp[Lib.lens,this]⟩
  case round =>
   obtain⟨k,aj,rfl,rfl⟩:=hrel;by_cases xL:k<N
   .obtain⟨x,aa⟩:∃x,(x0::r)[k]?=some x:=⟨_,ey (by rwa[e5,<-f.out])⟩;have aB:=l.out k x aa;have C8:=Lib.lens_take_succ ((x0::r).map (·.data.toList)) k x.data.toList abx;have a:Lib.lens (((x0::r).map (·.data.toList)).take (k+1))<=Lib.lens ((x0::r).map (·.data.toList)):=Lib.lens_take_le _ _;rw[<-Lib.size_eq] at C8;generalize s8:Lib.lens (((x0::r).map (·.data.toList)).take (k+1))=bj at C8 a;generalize Lib.lens (((x0::r).map (·.data.toList)).take k)=o0 at C8;have aG2:=Lib.hid s8;clear s8 aa
    go_wp2
    exact⟨⟨k+1,U,by go_num,by rw[aG2.out];refine hq _ ?_;omega⟩,by simp[intOf];omega⟩
   .have HB:k=N:=U;have n1:((x0::r).map (·.data.toList)).take k=(x0::r).map (·.data.toList):=BY (by rw[fI,e5,<-f.out,HB];exact xE);rw[n1];clear n1;subst HB;generalize hT:Lib.lens ((x0::r).map (·.data.toList))=T at Oc;clear hT
    go_wp2_with fail
    refine(Tryz.Builder_Grow_fresh_cap w.heap.size w.heap.size K _ (b4 _) (heap_alloc_new w _) aF U).mono ?_;rintro e dJ ⟨rfl,⟨I,J⟩,p,cap,G7,z⟩;have S:=((Below.refl w.heap.size w).alloc (b4 _) _).trans J;have JN:dJ.cell? ⟨d,o,none⟩=some (.string x0):=by
     rw[S.cell (p:=⟨d,o,none⟩) ht];exact l.out 0 x0 rfl
    have H1:=Lib.hid (FC.of I G7 z h0);have aG3:=Lib.hid S;clear I J G7 z S;have H:(Lib.join (x0.data.toList::r.map (·.data.toList)) c4.data.toList).length=K:=aG1.out;have G:=Lib.hid (λk=>H▸aGY c4.data.toList x0.data.toList (r.map (·.data.toList)) k:∀k,(tU c4.data.toList x0.data.toList (r.map (·.data.toList)) k).length<=K);clear H
    go_wp2_with fail
    refine(agw w.heap.size w.heap.size K [] x0 dJ H1.out (by have:=G.out 0;simp[tU,Lib.joinTail] at this|-;omega)).mono ?_;rintro e oT ⟨rfl,P,iQ⟩;have F:([]:List Value)++Lib.strCells x0=Lib.byteCells (tU c4.data.toList x0.data.toList (r.map (·.data.toList)) 0):=by
     simp[tU,Lib.joinTail,Lib.strCells_eq]
    rw[F] at P;have lD:=Lib.hid P;have aG4:=Lib.hid (aG3.out.trans iQ);clear P iQ F;have hM:r.length=k-1:=by have:=f.out;omega
    go_wp2_with fail
    go_loopw [65] (λi wr=>∃k:Nat,k<=r.length/\i=.int .i64 k/\Hid (FC w.heap.size w.heap.size K (Lib.byteCells (tU c4.data.toList x0.data.toList (r.map (·.data.toList)) k)) wr)/\Hid (Below w.heap.size w wr)) (λi _=>r.length-(intOf i).toNat)
    case atStart=>exact⟨0,dG _,rfl,lD,aG4⟩
    case round =>
     obtain⟨j,aA,rfl,E,L⟩:=hrel;by_cases FD:j<r.length
     .obtain⟨y,aN⟩:∃y,r[j]?=some y:=⟨r[j],ey FD⟩;have aR7:wr.cell? ⟨d,o+1+j,none⟩=some (.string y):=by
       rw[L.out.cell (p:=⟨d,o+1+j,none⟩) ht,show o+1+j=o+(j+1) by omega];exact l.out (j+1) y Jl
      have t:=aGX (c4:=c4.data.toList) (x0:=x0.data.toList) (r:=r.map (·.data.toList)) (k:=j) (y:=y.data.toList) al0;have uZ:Lib.byteCells (tU c4.data.toList x0.data.toList (r.map (·.data.toList)) j)++Lib.strCells c4++Lib.strCells y=Lib.byteCells (tU c4.data.toList x0.data.toList (r.map (·.data.toList)) (j+1)):=by
       rw[t,Lib.strCells_eq,Lib.strCells_eq,<-Lib.byteCells_append,<-Lib.byteCells_append]
      have O:=G.out (j+1);rw[t] at O;simp[iM,<-Lib.size_eq] at O;have Q:(Lib.byteCells (tU c4.data.toList x0.data.toList (r.map (·.data.toList)) j)).length=(tU c4.data.toList x0.data.toList (r.map (·.data.toList)) j).length:=Lib.byteCells_length _;generalize(tU c4.data.toList x0.data.toList (r.map (·.data.toList)) j).length=qn at Q O;have aG5:=Lib.hid uZ;clear uZ aN t
      go_wp2_with fail
      refine(agw w.heap.size w.heap.size K _ c4 wr E.out (by rw[Q];omega)).mono ?_;rintro e tC ⟨rfl,OB,tH⟩;have o3:=Lib.hid OB;have Z:=Lib.hid tH;clear OB tH
      go_wp2_with fail
      refine(agw w.heap.size w.heap.size K _ y tC o3.out (by rw[iM,Q,Lib.strCells_length];omega)).mono ?_;rintro e Cg ⟨rfl,s,Bj⟩;rw[aG5.out] at s;have Bu:=Lib.hid s;have Y:=Lib.hid ((L.out.trans Z.out).trans Bj);clear s Bj
      go_wp2
      exact⟨⟨j+1,U,by go_num,Bu,Y⟩,by simp[intOf];omega⟩
     .have K2:j=(r.map (·.data.toList)).length:=by rw[fI];omega
      have z:=E.out;rw[K2,aGZ] at z;have H3:=L.out.size;have X:=Lib.hid z;clear z K2
      go_wp2_with fail
      refine(Tryz.Builder_String_any w.heap.size w.heap.size _ wr (aGW X.out) H3).mono ?_;rintro e asW ⟨rfl,zQ⟩;have W:=Lib.hid (L.out.trans zQ);clear zQ
      go_wp2
      go_ret
      exact⟨rfl,W.out⟩)
def aHa xs c4 r h h0(c:rn h0 r xs h)(i:df<=h0.n)(f:xs.length<=140737488355328)(m:(Lib.join (xs.map (·.data.toList)) c4.data.toList).length<=281474976710656):
 bc prog 33 ⟨[cD 1 r (nU xs),.string c4]⟩ h (.string (rl xs c4)) h:=by
 by_cases aC:(Lib.join (xs.map (·.data.toList)) c4.data.toList).length<=140737488355328
 .exact asG xs c4 r h h0 c i f aC
 .rcases xs with _|⟨a,l⟩
  .exact asD c4 0 h
  .have hm:=(c.row aF).2;rw[jO,Ox,ai QB,ai QB];refine bc.asC aF λρ W aH=>?_;have g:=aH.fa _ _ hm;have⟨tail,q,he,k,_⟩:=g.fC (bx i (c.row aF).1) (.inl (by simp[rm]));have aB:(a::l).length<=jv ρ ⟨r,0,none⟩ (dF 1):=by
    have J:jv ρ ⟨r,0,none⟩ (dF 1)=ρ.cap r:=by
     rw[jv,dF,ai U];simp
    rw[J,<-k];simp[rm]
   have d:∀(j:Nat) x,(a::l)[j]?=some x->W.cell? ⟨ρ.bJ r,ρ.fO r+j,none⟩=some (.string x):=by
    intro j x o;have:=aH.cell (a:=⟨r,j,none⟩) hm rfl (by
     rw[DQ];rw[rm,gf,o];rfl)
    simpa[fJ,Mf] using this
   rcases l with _|⟨b,l⟩
   .have:Calls prog 33 #[.slice (some ⟨ρ.bJ r,ρ.fO r,none⟩) 1 (jv ρ ⟨r,0,none⟩ (dF 1)),.string c4] W λe W'=>e=.returned (.string a)/\W'=W:=Any.strings_Join_one Tryz.YL Tryz.Sv (ρ.bJ r) (ρ.fO r) (jv ρ ⟨r,0,none⟩ (dF 1)) a c4 W (by simpa using d 0 a rfl);refine Calls.mono (R:=λe W'=>e=.returned (.string a)/\W'=W) (by simpa[fJ] using this) λe W' ⟨he,hw⟩=>⟨?_,hw▸RowKit.Below.refl _ _⟩;rw[he];rw[rl,gg,oH,Lib.join_one,Lib.mk_data]
   .have:=aG0 (ρ.bJ r) (ρ.fO r) (jv ρ ⟨r,0,none⟩ (dF 1)) a (b::l) c4 W d g.lt (l.length+2) rfl U (by simpa using f) aca _ rfl U m;simpa[fJ,rl] using this
section
attribute[local irreducible] W ad
def asX x(aa:x.ok)(ak:x.args.length<=100000):(H7 x).data.size<=10200000:=by
 have c:=asL x aa ak;have i:=u4 x.off;have J:(FB x).length<=1/\∀s∈FB x,s.data.size<=100:=by
  unfold FB;split
  .exact⟨aF,λs aC=>by cases aC⟩
  .refine⟨aF,λs aC=>?_⟩;rw[gU.1 aC,s7];have e:(⟨#[43]⟩:ByteArray).data.size=1:=rfl;omega
 have ab:(y0 x).length<=1/\∀s∈y0 x,s.data.size<=100:=by
  unfold y0;split
  .refine⟨aF,λs aC=>?_⟩;exact gU.1 aC▸dM rfl
  .exact⟨aF,λs aC=>by cases aC⟩
 have bh:(K0 x).length<=100006:=by
  unfold K0;have:=c.1;simp[iM] at this|-;omega
 have d:∀s∈K0 x,s.data.size<=100:=by
  intro s aC;unfold K0 at aC;rcases ha.1 aC with h|h
  .rcases ha.1 h with h|h
   .exact c.2 s h
   .exact J.2 s h
  .exact ab.2 s h
 have f:=join_le (K0 x) ⟨#[32]⟩ 100 d;have e:(H7 x).data.size=(Lib.join ((K0 x).map (·.data.toList)) (⟨#[32]⟩:ByteArray).data.toList).length:=by
  unfold H7 rl;simp
 have g:(⟨#[32]⟩:ByteArray).data.size=1:=rfl;rw[g] at f;omega
def vQ(f:dp):ByteArray:=f.name++⟨#[32]⟩++jZ f.params++⟨#[58]⟩
def yo(x:cO):ByteArray:=⟨#[32,32]⟩++H7 x
def Df(t:kt):ByteArray :=
 if t.bp=1 then⟨#[32,32,106,117,109,112,32,98]⟩++jZ t.goto
 else if t.bp=2 then⟨#[32,32,105,102,32]⟩++H6 t.op++⟨#[32]⟩++od t.a++⟨#[32]⟩++od t.b++⟨#[32,98]⟩++jZ t.goto++⟨#[32,101,108,115,101,32,98]⟩++jZ t.dx
 else⟨#[32,32,114,101,116,32]⟩++od t.a
def SD(i:Nat)(b:bT):List ByteArray:=(⟨#[98]⟩++jZ (i:Int)++⟨#[58]⟩)::(b.ah.map yo++[Df b.av])
def nL:Nat->List bT->List ByteArray
 | _,[]=>[]
 | i,b::l=>SD i b++nL (i+1) l
def FE(f:dp):ByteArray:=rl (vQ f::nL 0 f.blocks) ⟨#[10]⟩++⟨#[10]⟩
def asY:∀(i:Nat) (a b:List bT),nL i (a++b)=nL i a++nL (i+a.length) b
 | i,[],b=>by simp[nL]
 | i,x::a,b=>by
  rw[BW,nL,nL,asY (i+1) a b,pX,e5];rw[show i+1+a.length=i+(a.length+1) by omega]
def aHb{bl:List bT}{i b}(h:bl[i]?=some b):nL 0 (bl.take (i+1))=nL 0 (bl.take i)++SD i b:=by
 rw[Aw,h,asY,IU,I0 (ph ((cS.1 h).1)),ff];simp[nL]
def u5(bl:List bT):Nat:=(bl.map λb=>b.ah.length+2).sum
def K3:∀(i:Nat) (bl:List bT),(nL i bl).length=u5 bl
 | _,[]=>rfl
 | i,b::l=>by
  have a:=K3 (i+1) l;unfold u5 at a|-;simp only[nL,SD,iM,e5,fI,vg,a,gg,nP]
def asZ:∀{bl:List bT}{i:Nat}{b:bT},bl[i]?=some b->u5 (bl.take i)+(b.ah.length+2)<=u5 bl
 | [],_,_,h=>p2
 | x::bl,0,b,h=>by
  simp[kC,dh] at h;subst h;simp[u5]
 | x::bl,i+1,b,h=>by
  have:=asZ lM;unfold u5 at this|-;simp only[wi,gg,nP];omega
def aHc{bl}i:u5 (bl.take i)<=u5 bl:=by
 have:u5 bl=u5 (bl.take i)+u5 (bl.drop i):=by
  unfold u5;conv=>lhs;rw[<-GC i bl,pW,UE]
 omega
structure as0(t:kt):Prop where
 a:t.a.ok
 b:t.b.ok
 goto:b8 t.goto
 dx:b8 t.dx
 op:t.bp=2->0<=t.op/\t.op<31
structure Ia(f:dp):Prop where
 par:b8 f.params
 name:f.name.data.size<=140737488351232
 lines:u5 f.blocks<=3000000
 ah:∀b∈f.blocks,∀x∈b.ah,x.ok/\x.args.length<=100000
 av:∀b∈f.blocks,as0 b.av
 len:f.blocks.length<=100000
def as1 f:(vQ f).data.size<=f.name.data.size+30:=by
 rw[vQ,s7,s7,s7];have:=u4 f.params;have a:(⟨#[32]⟩:ByteArray).data.size=1:=rfl;have b:(⟨#[58]⟩:ByteArray).data.size=1:=rfl;omega
def aHd t(h:t.bp=2->0<=t.op/\t.op<31):(Df t).data.size<=400:=by
 unfold Df;have J:=u4 t.goto;have ab:=u4 t.dx;have aK:=YM t.a;have br:=YM t.b;split
 .rw[s7];have e:(⟨#[32,32,106,117,109,112,32,98]⟩:ByteArray).data.size=8:=rfl;omega
 .split
  .rename_i aj;have cz:=ags t.op (h aj).1 (h aj).2;repeat rw[s7]
   have ba:(⟨#[32,32,105,102,32]⟩:ByteArray).data.size=5:=rfl;have a1:(⟨#[32]⟩:ByteArray).data.size=1:=rfl;have eh:(⟨#[32,98]⟩:ByteArray).data.size=2:=rfl;have iq:(⟨#[32,101,108,115,101,32,98]⟩:ByteArray).data.size=7:=rfl;omega
  .rw[s7];have e:(⟨#[32,32,114,101,116,32]⟩:ByteArray).data.size=6:=rfl;omega
def agE:∀(i:Nat) (bl:List bT),(∀b∈bl,∀x∈b.ah,x.ok/\x.args.length<=100000)->(∀b∈bl,b.av.bp=2->0<=b.av.op/\b.av.op<31)->∀s∈nL i bl,s.data.size<=10200002
 | _,[],_,_,s,aC=>by cases aC
 | i,b::l,ag,aS,s,aC=>by
  rw[nL] at aC;rcases ha.1 aC with h|h
  .unfold SD at h;rcases dI.1 h with h|h
   .rw[h,s7,s7];have:=u4 (i:Int);have ba:(⟨#[98]⟩:ByteArray).data.size=1:=rfl;have a1:(⟨#[58]⟩:ByteArray).data.size=1:=rfl;omega
   .rcases ha.1 h with h|h
    .obtain⟨x,aa,rfl⟩:=ih.1 h;have⟨J,ab⟩:=ag b aF x aa;have:=asX x J ab;rw[yo,s7];have ba:(⟨#[32,32]⟩:ByteArray).data.size=2:=rfl;omega
    .rw[gU.1 h];have:=aHd b.av (aS b aF);omega
  .exact agE (i+1) l (λc aB=>ag c (by simp[aB])) (λc aB=>aS c (by simp[aB])) s h
def aAn l:(⟨⟨l⟩⟩:ByteArray).size=l.length:=rfl
def YQ n:(jZ n).size<=24:=u4 n
def as2 a:(od a).size<=25:=YM a
def aHe f(L:Ia f) bj aW a8 aT dr bn h(aC:c0 h dr 9 f.blocks (yb h))(bf:GT h)(aS:FA h):bc prog 15 ⟨[.agg ⟨dj f bj aW a8 aT dr bn⟩]⟩ h (.string (FE f)) h:=by
 have YR:=YQ f.params;have zC:f.name.size<=140737488351232:=L.name;refine bc.rX func15 ntmps15 (λbF=>⟨b4 _,aF,λi b I=>⟨bF.aO i b I,bF.dP i b I⟩⟩) λπ bF=>?_;conv=>arg 2;whnf
 refine Kb ?_;refine W.hH λO pD A=>?_;have tQ:O.m (π 0)=bS (dj f bj aW a8 aT dr bn) 53:=A.bJ 0 (bo:(0:Nat)<1);generalize π 0=q at *;have o2:=A.j9.rw;have oM:=bf.up A.up;have uB:=A.aO;have bz:=tQ;have gh:=A.aO _ _ tQ;refine uU ?_;apply W.seq;repeat(first|refine JU ?_|refine sO ?_|refine gP ?_|refine na ?_|refine gr ?_|apply ad.py;rfl;rfl;rfl;exact λH b7=>(GZ f.params L.par H (oM.up (G0 uB b7)));exact hS|refine an7 ?_)
 have aHf:∀i,(vQ f::nL 0 (f.blocks.take i)).length<=3000001:=by
  intro i;have J:=aHc (bl:=f.blocks) i;have ab:=L.lines;rw[e5,K3];omega
 refine W.hH λdA fo ch=>?_;have A9:rn O (pD 1) [vQ f] dA:=⟨ch.bk,λ_=>⟨ch.bL 1 (bo:(1:Nat)<2),(ch.bJ 1 (bo:(1:Nat)<2)).trans rfl⟩⟩;have bz:=A9.cx.up A.aO _ _ tQ;have gh:=ch.aO _ _ bz;repeat(first|refine sO ?_|refine vv ?_|refine mc ?_)
 refine W.hz (X:=Nat×Nat) (λz=>[(1,cE q),(21,.slice dr f.blocks.length bn),(22,bm (f.blocks.length:Int)),(23,bm (z.1:Int)),(3,cD 1 z.2 (nU (vQ f::nL 0 (f.blocks.take z.1))))]) (λz B=>z.1<=f.blocks.length/\rn O z.2 (vQ f::nL 0 (f.blocks.take z.1)) B) (λz=>f.blocks.length-z.1)
  (λaD a=>⟨(0,pD 1),?_,⟨dG _,A9.up ch.aO a.bk⟩⟩) ?_
 .exact ca
 rintro⟨i,r⟩ B fE dd ⟨ag,V⟩;dsimp only at ag V|-;have aR8:=aHf i;have qx:(vQ f::nL 0 (f.blocks.take i)).length=u5 (f.blocks.take i)+1:=by rw[e5,K3]
 have YS:=L.lines;have aR9:=L.len;generalize SE:vQ f::nL 0 (f.blocks.take i)=E at *;have aHg:E≠[]:=by rw[<-SE];simp
 by_cases bs:i<f.blocks.length
 .have⟨b,I⟩:=cR f.blocks i bs;have dZ:=bQ I;have vB:=asZ I;obtain⟨fL,go,pB,ge,rfl,pM,n5,Ng,Nh,lz,aHh⟩:=(aC.mono A.up λ_ _ h=>zP A.up h).get i b I;have cQ:=V.cx.up A.aO _ _ pM;have mD:=dd.aO _ _ cQ;have aHi:b8 (i:Int):=Jk;have Ns:=dd.aO _ _ (V.row aHg).2;refine CI ?_;refine CJ ?_;refine zs ?_;(apply W.seq;(apply W.ck;kernel_rfl);repeat(first|refine AY ?_|refine fi ?_|refine zn ?_|refine c8 ?_));(with_reducible apply fr);refine W.hH λC fj a3=>?_;have aHj:C.m (fE 0)=bS (kq b Ng Nh) 48:=a3.bJ 0 (bo:(0:Nat)<1);have Ib:B.n<=fE 0:=a3.bL 0 (bo:(0:Nat)<1);generalize fE 0=T at *;have as3:=a3.aO _ _ aHj;have v:=V.up dd.aO a3.bk;have oM:=oM.up (v.cx.up A.aO);have uB:=a3.aO;have Q:E.length+1<=8000000000000:=U;have aSa:=YQ (i:Int);(apply W.seq;(apply W.ck;kernel_rfl);repeat(first|refine JU ?_|apply ad.py;rfl;rfl;rfl;exact λH b7=>(GZ (i:Int) aHi H (oM.up (G0 uB b7)));exact hS|apply(ad.z6 (h0:=O));(iterate 4 rfl);exact o2;exact v;exact GL;exact Q;intro R H1 fo s1 nQ Z Y|refine gP ?_|refine fi ?_|refine c8 ?_));(with_reducible apply fr);have aHk:T≠r:=U;have as4:H1.m T=bS (kq b Ng Nh) 48:=by rwa[Y.2 T as3 aHk]
  have aHl:=eQ as3 Z;have aHm:=nQ;have hT:=as4;have Rp:=s1.aO _ _ hT;generalize S:E++[⟨#[98]⟩++jZ (i:Int)++⟨#[58]⟩]=M at *;have aHn:M.length=E.length+1:=by rw[<-S];simp
  have aHo:M≠[]:=by rw[<-S];simp
  have p7:∀k,k<=b.ah.length->(M++(b.ah.take k).map yo).length<=3000001:=by
   intro k aj;rw[iM,fI,IU,aHn,qx];omega
  have wq:=L.av b dZ;have qo:=wq.op;repeat(first|apply ad.dv;rfl;rfl;rfl;exact hT;exact Rp;rfl|refine vv ?_|refine mc ?_)
  refine W.hz (X:=Nat×Nat) (λz=>[(1,cE q),(21,.slice (some ⟨fL,go,none⟩) f.blocks.length bn),(22,bm (f.blocks.length:Int)),(23,bm (i:Int)),(5,cE T),(36,.slice Ng b.ah.length Nh),(37,bm (b.ah.length:Int)),(38,bm (z.1:Int)),(3,cD 1 z.2 (nU (M++(b.ah.take z.1).map yo)))]) (λz D=>z.1<=b.ah.length/\rn O z.2 (M++(b.ah.take z.1).map yo) D/\D.m T=bS (kq b Ng Nh) 48/\T<z.2) (λz=>b.ah.length-z.1)
   (λaD a=>⟨(0,R),?_,⟨dG _,by rw[xp,oH,l2];exact aHm.up s1.aO a.bk,a.up _ _ as4,aHl⟩⟩) ?_
  .rw[xp,oH,l2];exact ca
  rintro⟨k,Nz⟩ D rj SF ⟨aj,v,hT,aHp⟩;dsimp only at aj v aHp|-;have Rp:=SF.aO _ _ hT;have oM:=(bf.up A.up).up (v.cx.up A.aO);have uB:=SF.aO;have Q:(M++(b.ah.take k).map yo).length+1<=8000000000000:=by have:=p7 k aj;omega
  have as5:=(aS.up A.up).up (v.cx.up A.aO);by_cases kG:k<b.ah.length
  .have⟨x,aa⟩:=cR b.ah k kG;have⟨pn,jJ⟩:=L.ah b dZ x (bQ aa);obtain⟨bN,cq,c1,eH,rfl,tO,aHq,aHr,dJ,aHs,XD⟩:=aHh.get k x aa;have bd:=v.cx.up A.aO _ _ tO;have hIn:=SF.aO _ _ bd;have aSb:(H7 x).size<=10200000:=asX x pn jJ;have Mz:M++(b.ah.take (k+1)).map yo=M++(b.ah.take k).map yo++[⟨#[32,32]⟩++H7 x]:=by
    rw[Aw,aa];simp[yo]
   have aHt:=XD.mono (v.cx.up A.aO) λ_ _ h=>h;repeat(first|refine JU ?_|apply ad.hF;rfl;rfl;rfl;exact bd;exact hIn;exact aHq;exact aHs|apply(ad.jy (g0:=31));rfl;rfl;rfl;exact λaD eL=>aGM x pn aHr dJ aD (aHt.mono (λi b I=>eL.up i b I) λ_ _ h=>h) jJ (oM.up λi b I=>eL.up i b I) (as5.up λi b I=>eL.up i b I)|refine er ?_|apply(ad.z6 (h0:=O));(iterate 4 rfl);exact o2;exact v;exact Vc;exact Q;intro R H1 fo s1 nQ Z Y|refine gP ?_|refine uT ?_|refine AX ?_)
   refine eK rfl λaD y=>⟨(k+1,R),?_,⟨hR,alh,y.up _ _ (by rwa[Y.2 T Rp U]),eQ Rp Z⟩,hR⟩;dsimp only;rw[Mz];exact ca
  .have HB:k=b.ah.length:=U;have sY:(b.ah.take k).map yo=b.ah.map yo:=by rw[HB,mv]
   rw[sY] at v Q|-;have F:vQ f::nL 0 (f.blocks.take (i+1))=M++b.ah.map yo++[Df b.av]:=by
    rw[aHb I,<-BW,SE,<-S];unfold SD;simp
   have aSc:=YQ b.av.goto;have aSd:=YQ b.av.dx;have aSe:=as2 b.av.a;have aSf:=as2 b.av.b;have q7:b.av.bp=1\/(¬b.av.bp=1/\b.av.bp=2)\/(¬b.av.bp=1/\¬b.av.bp=2):=U;rcases q7 with fV|⟨fV,hk⟩|⟨fV,hk⟩
   .have CY:Df b.av=⟨#[32,32,106,117,109,112,32,98]⟩++jZ b.av.goto:=by rw[Df,au fV]
    rw[CY] at F;repeat(first|refine JU ?_|apply ad.py;rfl;rfl;rfl;exact akq;exact hS|refine ac4 ?_|apply(ad.z6 (h0:=O));(iterate 4 rfl);exact o2;exact v;exact Vc;exact Q;intro R H1 fo s1 nQ Z Y|refine gP ?_|refine x1 ?_|refine jj ?_|refine q0 ?_|refine c8 ?_|refine adr ?_|refine q1 ?_)
    refine eK rfl λaD y=>⟨(i+1,R),?_,⟨hR,by dsimp only;exact F▸nQ.up s1.aO y.bk⟩,hR⟩;dsimp only;rw[F];exact ca
   .have CY:Df b.av=⟨#[32,32,105,102,32]⟩++H6 b.av.op++⟨#[32]⟩++od b.av.a++⟨#[32]⟩++od b.av.b++⟨#[32,98]⟩++jZ b.av.goto++⟨#[32,101,108,115,101,32,98]⟩++jZ b.av.dx:=by unfold Df;rw[ai fV,au hk]
    rw[CY] at F;obtain⟨aHu,aHv⟩:=qo hk;obtain⟨aeN,cj⟩:=as5;have afZ:=SF.aO _ _ cj;have e7:=asH (n:=b.av.op.toNat) U;rw[tk U] at e7;have aGN:(H6 b.av.op).size<=24:=ags _ aHu aHv;have SG:M++b.ah.map yo≠[]:=by simp[aHo]
    repeat(first|refine JU ?_|(apply ad.py;rfl;rfl;rfl;first|exact akq;exact hS|exact λH b7=>(GZ b.av.dx wq.dx H (oM.up (G0 uB b7)));exact hS|exact akG;exact hS|exact λH b7=>(abM b.av.b wq.b H (oM.up (G0 uB b7)));exact hS)|refine ac4 ?_|apply ad.dv;rfl;rfl;rfl;exact cj;exact afZ;exact e7|apply(ad.Nv (m:=b.av.op.toNat));rfl;rfl;rfl;exact aj1;omega|apply(ad.aGE (q:=1));(iterate 4 rfl);exact SG;exact(v.row SG).2;exact(SF.aO _ _ (v.row SG).2);exact(bx o2 (v.row SG).1);exact iu;rfl;exact Q|refine gP ?_|refine x1 ?_|refine jj ?_|refine vz ?_|refine c8 ?_|refine adr ?_|refine q1 ?_)
    have aEk:=v.row SG;refine eK rfl λaD y=>⟨(i+1,rj 2),?_,⟨hR,?_⟩,hR⟩
    .dsimp only;rw[F];exact ca
    .dsimp only;rw[F];refine⟨⟨bx v.cx.1 y.le,λj aA=>?_⟩,λ_=>⟨bx v.cx.1 (y.bL 2 (bo:(2:Nat)<3)),(y.bJ 2 (bo:(2:Nat)<3)).trans rfl⟩⟩;have ba:=y.cx j (eQ aA v.cx.1);rw[ba,<-v.cx.2 j aA];show(if j=Nz then none else D.m j)=D.m j;rw[ai U]
   .have CY:Df b.av=⟨#[32,32,114,101,116,32]⟩++od b.av.a:=by unfold Df;rw[ai fV,ai hk]
    rw[CY] at F;repeat(first|refine JU ?_|apply ad.py;rfl;rfl;rfl;exact akG;exact hS|refine ac4 ?_|apply(ad.z6 (h0:=O));(iterate 4 rfl);exact o2;exact v;exact Vc;exact Q;intro R H1 fo s1 nQ Z Y|refine gP ?_|refine na ?_|refine adX ?_|refine vz ?_|refine c8 ?_|refine adr ?_|refine lC ?_)
    refine eK rfl λaD y=>⟨(i+1,R),?_,⟨hR,by dsimp only;rw[F];exact nQ.up s1.aO y.bk⟩,hR⟩;dsimp only;rw[F];exact ca
 .have rT:i=f.blocks.length:=U;have F:E=vQ f::nL 0 f.blocks:=by rw[<-SE,rT,mv]
  have ej:(Lib.join (E.map (·.data.toList)) (⟨#[10]⟩:ByteArray).data.toList).length<=200000000000000:=by
   have I:=agE 0 f.blocks L.ah λc aB=>(L.av c aB).op;have J:=as1 f;have ab:=L.name;rw[F,gg,Lib.join_length,Lib.lens,gg,nP,fI,K3];have aK:∀l:List ByteArray,(∀s∈l,s.data.size<=10200002)->((l.map (·.data.toList)).map (·.length)).sum<=l.length*10200002:=by
    intro l;induction l with
    | nil=>intro _;exact xE
    | cons a l aP =>
     intro ao;have i1:=aP λs aC=>ao s (by simp[aC]);have i2:=ao a aF;simp only[gg,nP,e5,Ap];rw[uu];omega
   have br:=aK _ I;rw[K3] at br;have ba:(⟨#[10]⟩:ByteArray).data.toList.length=1:=rfl;rw[ba,Ap];omega
  have cC:∀aD,cW B aD->bc prog 33 ⟨[cD 1 r (nU E),.string ⟨#[10]⟩]⟩ aD (.string (rl E ⟨#[10]⟩)) aD:=λaD o=>aHa E _ r aD O (V.up dd.aO o) o2 U U;have aSg:(rl E ⟨#[10]⟩).size<=200000000000000:=by
   have e:(rl E ⟨#[10]⟩).size=(Lib.join (E.map (·.data.toList)) (⟨#[10]⟩:ByteArray).data.toList).length:=by
    unfold rl;show(Array.mk _).size=_;simp
   rw[e];exact ej
  have rK:FE f=rl E ⟨#[10]⟩++⟨#[10]⟩:=by rw[F];rfl
  repeat(first|refine JU ?_|apply(ad.jy (g0:=33));rfl;rfl;rfl;exact λaD eL=>cC aD eL.bk|refine fi ?_|refine uS ?_)
  exact cf _ (dt rfl) λaD y=>⟨by rw[rK];rfl,λj x aA=>y.up _ _ (V.cx.up A.aO _ _ (A.up _ _ aA))⟩
def as6 f(b:Ia f):(FE f).size<=200000000000001:=by
 have J:=as1 f;have r:=b.name;have q:=b.lines;have k:∀l:List ByteArray,(∀s∈l,s.data.size<=10200002)->((l.map (·.data.toList)).map (·.length)).sum<=l.length*10200002:=by
  intro l;induction l with
  | nil=>exact λ_=>b4 _
  | cons a l j =>
   intro d;have n:=j λs aC=>d s (by simp[aC]);have m:=d a aF;simp only[gg,nP,e5,Ap];rw[uu];omega
 have g:=k _ (agE 0 f.blocks b.ah λc aB=>(b.av c aB).op);rw[K3] at g;have i:(⟨#[10]⟩:ByteArray).data.toList.length=1:=rfl;have t:(Lib.join ((vQ f::nL 0 f.blocks).map (·.data.toList)) (⟨#[10]⟩:ByteArray).data.toList).length<=200000000000000:=by
  rw[gg,Lib.join_length,Lib.lens,gg,nP,fI,K3,i,Ap];omega
 have e:(rl (vQ f::nL 0 f.blocks) ⟨#[10]⟩).data.size=(Lib.join ((vQ f::nL 0 f.blocks).map (·.data.toList)) (⟨#[10]⟩:ByteArray).data.toList).length:=by
  unfold rl;simp
 unfold FE;show(rl (vQ f::nL 0 f.blocks) ⟨#[10]⟩++⟨#[10]⟩).data.size<=_;rw[s7,e];have o:(⟨#[10]⟩:ByteArray).data.size=1:=rfl;omega
def xb:List dp->ByteArray:=λl=>l.foldl (λs f=>s++FE f) ⟨#[]⟩
def aHw l f:xb (l++[f])=xb l++FE f:=by simp[xb]
def as7:∀(l:List dp) (s:ByteArray),(∀f∈l,Ia f)->(l.foldl (λs f=>s++FE f) s).size<=s.size+l.length*200000000000001
 | [],s,_=>by show s.size<=s.size+0*_;omega
 | f::l,s,h=>by
  have J:=as7 l (s++FE f) λg bf=>h g VW;have a:=as6 f (h f aF);rw[At,e5];rw[P1] at J;omega
def aHx l(h:∀f∈l,Ia f):(xb l).size<=l.length*200000000000001:=by
 have J:=as7 l ⟨#[]⟩ h;have e:(⟨#[]⟩:ByteArray).size=0:=rfl;unfold xb;omega
def as8 p(Z:p.funcs.length<=10000)(G:∀f∈p.funcs,Ia f) u d1 F d2 h(bf:GT h)(N:FA h)(O:c0 h u 6 p.funcs (lb h)):
 bc prog 6 ⟨[.agg ⟨hd p u d1 F d2⟩]⟩ h (.string (xb p.funcs)) h:=by
 refine bc.rX func6 ntmps6 (λz=>⟨b4 _,aF,λi b I=>⟨z.aO i b I,z.dP i b I⟩⟩) λπ z=>?_;conv=>arg 2;whnf
 refine Kb ?_;refine W.hH λD pD w=>?_;have C:D.m (π 0)=bS (hd p u d1 F d2) 25:=w.bJ 0 (bo:(0:Nat)<1);generalize π 0=aU at *;repeat(first|apply ad.dv;rfl;rfl;rfl;exact C;exact w.aO _ _ C;rfl|refine Cv ?_|refine mc ?_)
 refine W.hz (X:=Nat) (λi=>[(3,.string (xb (p.funcs.take i))),(7,.slice u p.funcs.length d1),(8,bm (p.funcs.length:Int)),(9,bm (i:Int))]) (λi B=>i<=p.funcs.length/\cW D B) (λi=>p.funcs.length-i)
  (λv a=>⟨0,?_,⟨dG _,a.bk⟩⟩) ?_
 .exact ca
 rintro i B fo Q ⟨ag,E⟩;have c:=λj b (I:h.m j=some b)=>E.up w.aO j b (w.up j b I);by_cases bs:i<p.funcs.length
 .have⟨f,A⟩:=cR p.funcs i bs;have L:=G f (bQ A);obtain⟨fL,go,pB,ge,rfl,M,n5,dA,ba,B2,a1,eW,eh,bI,lz,_,_,_,V⟩:=O.get i f A;have cQ:=c _ _ M;have mD:=Q.aO _ _ cQ;have Y:=as6 f L;have T:=aHx (p.funcs.take i) λg bf=>G g (GA bf);rw[IU] at T;have SH:min i p.funcs.length*200000000000001<=10000*200000000000001:=I2 _ U;have S:xb (p.funcs.take (i+1))=xb (p.funcs.take i)++FE f:=by
   rw[Aw,A];exact aHw _ _
  repeat(first|refine AY ?_|refine uT ?_|refine AX ?_|apply(ad.jy);rfl;rfl;rfl;exact λv s=>aHe f L _ _ _ _ _ _ v ((V.mono c λ_ _ h=>zP c h).mono (λi b I=>s.up i b I) λ_ _ h=>zP (λi b I=>s.up i b I) h) ((bf.up c).up λi b I=>s.up i b I) ((N.up c).up λi b I=>s.up i b I)|apply ad.WG;(iterate 4 rfl);omega)
  refine eK rfl λv a=>⟨i+1,?_,⟨U,E.trans a.bk⟩,U⟩;rw[S];exact ca
 .rw[(by rw[(U:i=p.funcs.length),mv]:xb (p.funcs.take i)=xb p.funcs)];repeat(first|refine fi ?_|refine uS ?_)
  exact cf _ (dt rfl) λv a=>⟨rfl,λj x R=>a.up _ _ (c j x R)⟩
end
end Go.Proofs.YtplleokmejppjaaGreatDoor
