/-
  What the functions that the law reaches compute,told by plain data;it holds of programs that pass the check of right form and are light.
-/
import Derived.Test.YtgpigfcagppohaaGreatDoorR1
import Derived.Test.YtgpigfcagppohaaGreatDoorR32
import Derived.Test.YtgpigfcagppohaaGreatDoorS1
import Derived.Test.YtgpigfcagppohaaGreatDoorS2
set_option linter.unusedVariables false
set_option linter.unusedSimpArgs false
namespace Go.Proofs.YtgpigfcagppohaaGreatDoor
open Go.AH
attribute [local irreducible] W RS WR
def signsL:List Nat:=[60,60,61,32,62,62,61,32,45,62,32,43,43,32,45,45,32,60,60,32,62,62,32,60,61,32,62,61,32,61,61,32,33,61,32,38,38,32,124,124,32,43,61,32,45,61,32,42,61,32,47,61,32,37,61,32,38,61,32,124,61,32,94,61,32,43,32,45,32,42,32,47,32,37,32,38,32,124,32,94,32,126,32,33,32,60,32,62,32,61,32,63,32,58,32,59,32,44,32,46,32,40,32,41,32,91,32,93,32,123,32,125]
def signsB:ByteArray:=⟨([60,60,61,32,62,62,61,32,45,62,32,43,43,32,45,45,32,60,60,32,62,62,32,60,61,32,62,61,32,61,61,32,33,61,32,38,38,32,124,124,32,43,61,32,45,61,32,42,61,32,47,61,32,37,61,32].append [38,61,32,124,61,32,94,61,32,43,32,45,32,42,32,47,32,37,32,38,32,124,32,94,32,126,32,33,32,60,32,62,32,61,32,63,32,58,32,59,32,44,32,46,32,40,32,41,32,91,32,93,32,123,32,125]).toArray⟩
def signL:List (List UInt8):=[[60,60,61],[62,62,61],[45,62],[43,43],[45,45],[60,60],[62,62],[60,61],[62,61],[61,61],[33,61],[38,38],[124,124],[43,61],[45,61],[42,61],[47,61],[37,61],[38,61],[124,61],[94,61],[43],[45],[42],[47],[37],[38],[124],[94],[126],[33],[60],[62],[61],[63],[58],[59],[44],[46],[40],[41],[91],[93],[123],[125]]
def signV:List Value:=signL.map fun l=>.string ⟨⟨l⟩⟩
def spaceN (c:Nat):Nat:=if c=32∨(9≤c∧c≤13) then 1 else 0
def spaceV:List Value:=(List.range 256).map fun i=>.int .u8 (spaceN i:Int)
theorem space_at {c:Nat} (h:c < 256):spaceV[c]?=some (.int .u8 (spaceN c:Int)):=by
 unfold spaceV
 rw [List.getElem?_map,List.getElem?_range h];rfl
def GS (h:Hp):Prop:=∃ e,h.m 0=some ⟨⟨spaceV⟩,e⟩
theorem GS.tf {P:Program} {h h':Hp} {g:FuncId} {args:Array Value} {v:Value} (hg:GS h) (ht:0 < h.n→TF P g args h v h'):TF P g args h v h':=by
 intro ha ρ W hok
 obtain ⟨e,h2⟩:=hg
 exact ht (hok.lt _ _ h2) ha ρ W hok
def sgC (i:Nat):Nat:=signsL.getD i 0
structure FldS where
 n:Nat
 w:Nat
 o:Nat
def fld1:Nat→FldS
 | 0=>⟨0,1,0⟩
 | i+1=>⟨(fld1 i).n+(if (fld1 i).w=1∧spaceN (sgC i)=0 then 1 else 0),spaceN (sgC i),(fld1 i).o ||| sgC i⟩
def fld2:Nat→Nat × Nat
 | 0=>(0,0)
 | i+1=>if spaceN (sgC i)=1 then ((fld2 i).1+1,i+1) else fld2 i
def fieldOK (i:Nat):Bool :=
 Nat.blt (sgC i) 128 && Nat.ble (fld1 i).n 1000 && Nat.ble (fld1 i).w 1 && decide (byteAt signsB i=(sgC i:Int)) && Nat.ble (spaceN (sgC i)) 1 &&
 decide (IntKind.u8.wrap (BitVec.ofInt 8 ((fld1 i).o:Int) ||| BitVec.ofInt 8 (sgC i:Int)).toNat=(((fld1 (i+1)).o:Nat):Int)) &&
 (if spaceN (sgC i)=1 then Nat.ble (fld2 i).2 i && Nat.blt (fld2 i).1 45 && Nat.blt (i+1) 112 && Nat.beq (spaceN (sgC (i+1))) 0 && ((signsB.extract (fld2 i).2 i).data.toList == signL.getD (fld2 i).1 []) else true)
theorem field_all:(List.range 112).all fieldOK=true:=by decide +kernel
theorem fld1_end:fld1 112=⟨45,0,127⟩:=by kernel_rfl
theorem fld2_end:fld2 112=(44,111):=by kernel_rfl
structure FieldF (i:Nat):Prop where
 c:sgC i < 128
 n:(fld1 i).n≤1000
 w:(fld1 i).w≤1
 b:byteAt signsB i=(sgC i:Int)
 s:spaceN (sgC i)≤1
 o:IntKind.u8.wrap (BitVec.ofInt 8 ((fld1 i).o:Int) ||| BitVec.ofInt 8 (sgC i:Int)).toNat=(((fld1 (i+1)).o:Nat):Int)
 f:spaceN (sgC i)=1→(fld2 i).2≤i∧(fld2 i).1 < 45∧i+1 < 112∧spaceN (sgC (i+1))=0∧signV[(fld2 i).1]?=some (.string (signsB.extract (fld2 i).2 i))
theorem field_ok {i:Nat} (h:i < 112):FieldF i:=by
 have:=List.all_eq_true.1 field_all i (List.mem_range.2 h)
 unfold fieldOK at this
 simp only [Bool.and_eq_true,decide_eq_true_eq] at this
 obtain ⟨⟨⟨⟨⟨⟨h1,h2⟩,h3⟩,h4⟩,h5⟩,h6⟩,h7⟩:=this
 refine ⟨blt_iff.1 h1,ble_iff.1 h2,ble_iff.1 h3,h4,ble_iff.1 h5,h6,fun hs=>?_⟩
 rw [if_pos hs] at h7
 simp only [Bool.and_eq_true,beq_iff_eq] at h7
 obtain ⟨⟨⟨⟨k1,k2⟩,k3⟩,k4⟩,k5⟩:=h7
 refine ⟨ble_iff.1 k1,blt_iff.1 k2,blt_iff.1 k3,Nat.eq_of_beq_eq_true k4,?_⟩
 have hlt:(fld2 i).1 < signL.length:=blt_iff.1 k2
 unfold signV
 rw [List.getElem?_map,List.getElem?_eq_getElem hlt,Option.map_some]
 rw [List.getD_eq_getElem?_getD,List.getElem?_eq_getElem hlt,Option.getD_some] at k5
 rw [← k5]
theorem byte_sg {n:Nat} (h:n < 112):byteAt signsB n=(sgC n:Int):=(field_ok h).b
def cellsF (k:Nat):List Value:=signV.take k++List.replicate (45 - k) (.string ⟨#[]⟩)
theorem cellsF_len {k:Nat} (h:k≤45):(cellsF k).length=45:=by
 unfold cellsF
 have:signV.length=45:=rfl
 simp only [List.length_append,List.length_take,List.length_replicate,this];omega
theorem cellsF_set {k:Nat} {v:Value} (h:k < 45) (hv:signV[k]?=some v):setL (cellsF k) (0+k * 1) [v]=cellsF (k+1):=by
 rw [setL_cons,setL_nil,Nat.zero_add,Nat.mul_one]
 unfold cellsF
 have hl:(signV.take k).length=k:=by
  have:signV.length=45:=rfl
  simp only [List.length_take,this];omega
 rw [List.set_append_right _ _ (by omega),hl,Nat.sub_self,show 45 - k=(45 - (k+1))+1 by omega,List.replicate_succ,List.set_cons_zero,List.take_add_one,hv]
 simp
theorem last_ok:signV[44]?=some (.string (signsB.extract 111 112)):=by kernel_rfl
section
variable {P:Program} {ops:Array Oper} {draw:Bool} {rs:List Rk} {l:List Oper} {fl:List (Nat × Value)} {nt:Nat} {h:SH} {K:Fr→SH→Prop} {d:Tmp} {ty:TypeId} {pos:String} {af:Array Edge} {gd:Option (Nat × Bool)}
theorem RS.com [Pend] {t:TypeId} {x:Operand} {p:Nat} (hw:wantB ops ⟨some d,.unOp .xor t x,ty,pos,af,gd⟩ ⟨fl,nt⟩=some true) (hd:Nat.blt d nt=true) (hx:Fr.ev ⟨fl,nt⟩ x=some (.int .i64 (p:Int))) (hp:p≤1)
 (hk:RS P ops draw (recP h.k false [] (some [])::rs) l ⟨(d,.int .i64 (-1 - (p:Int)))::fl,nt⟩ h K):RS P ops draw rs (⟨some d,.unOp .xor t x,ty,pos,af,gd⟩::l) ⟨fl,nt⟩ h K:=by
 refine RS.pure1 (v:=.int .i64 (-1 - (p:Int))) rfl (by simp) hw hd hx (by simp) (by simp) (fun ev W he=>?_) hk
 have hc:p=0∨p=1:=by omega
 rcases hc with rfl|rfl<;>simp [execOp,he,Op.unary,Op.intBits,IntKind.signed,IntKind.bits,IntKind.wrap]<;>decide
theorem RS.andC [Pend] {t yt:TypeId} {x y:Operand} {w p:Nat} (hw:wantB ops ⟨some d,.binOp .and t x y yt,ty,pos,af,gd⟩ ⟨fl,nt⟩=some true) (hd:Nat.blt d nt=true)
 (hx:Fr.ev ⟨fl,nt⟩ x=some (.int .i64 (w:Int))) (hy:Fr.ev ⟨fl,nt⟩ y=some (.int .i64 (-1 - (p:Int)))) (h1:w≤1) (h2:p≤1)
 (hk:RS P ops draw (recP h.k false [] (some [])::rs) l ⟨(d,.int .i64 ((if w=1∧p=0 then 1 else 0:Nat):Int))::fl,nt⟩ h K):RS P ops draw rs (⟨some d,.binOp .and t x y yt,ty,pos,af,gd⟩::l) ⟨fl,nt⟩ h K:=by
 refine RS.bin hw hd hx hy (v:=.int .i64 ((if w=1∧p=0 then 1 else 0:Nat):Int)) ?_ hk
 have hc:w=0∨w=1:=by omega
 have hc2:p=0∨p=1:=by omega
 rcases hc with rfl|rfl<;>rcases hc2 with rfl|rfl<;>rfl
theorem RS.indexSg [Pend] {t:TypeId} {x y:Operand} {k:IntKind} {n:Nat} [hu:TyU P t .string] (hw:wantB ops ⟨some d,.index t x y,ty,pos,af,gd⟩ ⟨fl,nt⟩=some true) (hd:Nat.blt d nt=true) (hx:Fr.ev ⟨fl,nt⟩ x=some (.string signsB)) (hy:Fr.ev ⟨fl,nt⟩ y=some (.int k (n:Int))) (hn:n < 112)
 (hk:RS P ops draw (recP h.k false [] (some [])::rs) l ⟨(d,.int .u8 (sgC n:Int))::fl,nt⟩ h K):RS P ops draw rs (⟨some d,.index t x y,ty,pos,af,gd⟩::l) ⟨fl,nt⟩ h K:=by
 rw [← byte_sg hn] at hk;exact RS.indexAt hw hd hx hy hn hk
end
def FieldsQ (h:Hp) (vs:List Value) (h':SH):Prop:=h'.base=h∧∃ i,i < h'.k∧lookB h'.l i=some ⟨⟨signV⟩,9⟩∧resultOf vs=.slice (some ⟨h'.π i,0,none⟩) 45 45
set_option maxHeartbeats 4000000 in
set_option maxRecDepth 100000 in
theorem fields_tf (H:Hp) (hg:GS H):TF Tryz.prog 106 ⟨[.string signsB]⟩ H (.slice (some ⟨H.n,0,none⟩) 45 45) (H.push ⟨⟨signV⟩,9⟩):=by
 refine hg.tf fun hn=>?_
 obtain ⟨e,hm⟩:=hg
 have hsz:signsB.size=112:=rfl
 refine TF.ends (fn:=Tryz.f106) (c:=(Tryz.f106.body.getD .skip)) (Q:=FieldsQ H) Tryz.func106 (by kernel_rfl) Tryz.ntmps106 (by kernel_rfl) ?_ ?_
 ·conv=>arg 2;whnf
  repeat (first|refine Yw ?_|refine Y0 ?_|refine Y41 ?_|refine Y1 ?_)
  refine W.loop (X:=Nat × FldS) (fun π x=>[(0,.string signsB),(3,.int .i64 (x.2.n:Int)),(4,.int .i64 (x.2.w:Int)),(5,.int .u8 (x.2.o:Int)),(6,.int .i64 (x.1:Int))]) (fun _=>H) (fun π _=>[]) (fun x=>fld1 x.1=x.2∧x.1≤112) (fun x=>112 - x.1) [] (0,⟨0,1,0⟩) ⟨rfl,Nat.zero_le _⟩ (by (refine FitL.mk ?_ ?_ ?_ ?_<;>(repeat' (first|exact trivial|exact rfl|apply And.intro));done)) ?_
  rintro π ⟨i,⟨n,w,o⟩⟩ ⟨q1,q2⟩
  dsimp only at q1 q2 ⊢
  by_cases hi:i < 112
  ·have f:=field_ok hi
   have hsp:spaceV[0+sgC i * 1]?=some (.int .u8 (spaceN (sgC i):Int)):=by rw [Nat.zero_add,Nat.mul_one];exact space_at (by have:=f.c;omega)
   have hwr:IntKind.i64.wrap (spaceN (sgC i):Int)=(spaceN (sgC i):Int):=by have:=f.s;exact wrap64_fit (by omega) (by omega)
   have hor:binI .or .u8 (o:Int) (sgC i:Int)=some (.int .u8 (((fld1 (i+1)).o:Nat):Int)):=by rw [← f.o,q1];rfl
   have fw:=f.w
   have fn:=f.n
   rw [q1] at fw fn
   dsimp only at fw fn
   replace f:FieldF i:=f
   have hif:(if w=1∧spaceN (sgC i)=0 then 1 else 0:Nat)≤1:=by split<;>omega
   repeat (first|refine Y4m ?_|((with_reducible apply RS.com);(iterate 3 exact rfl);exact f.s)|((with_reducible apply RS.andC);(iterate 4 exact rfl);exact fw;exact f.s)|((with_reducible apply RS.bin);(iterate 4 exact rfl);exact hor)|((with_reducible apply RS.indexAddrArr);(iterate 4 exact rfl);have:=f.c;omega)|refine Y3g ?_|((with_reducible apply RS.convNat);(iterate 3 exact rfl);exact hwr)|refine Y7 ?_|refine Y6 ?_|refine Yp ?_|((with_reducible apply RS.addNat);(iterate 4 exact rfl);omega)|refine Y1e ?_|refine Y0 ?_|refine Yt ?_|refine Y1 ?_|refine Y5 ?_)
   refine roundK_n (i+1,fld1 (i+1)) [] rfl rfl ⟨rfl,hi⟩ (by simp only;omega) (FitL.mk ⟨rfl,?_,rfl,rfl,rfl,trivial⟩ rfl trivial rfl)
   show some (Value.int .i64 _)=some (Value.int .i64 _)
   rw [show (fld1 (i+1)).n=(fld1 i).n+(if (fld1 i).w=1∧spaceN (sgC i)=0 then 1 else 0) from rfl,q1]
  ·have e0:i=112:=by omega
   subst e0
   rw [fld1_end] at q1
   injection q1 with e1 e2 e3
   subst e1;subst e2;subst e3
   repeat (first|((with_reducible apply (RS.makeSlice (n:=45) (cs:=cellsF 0)));(iterate 6 exact rfl);exact ⟨Nat.le_of_ble_eq_true rfl,Nat.le_of_ble_eq_true rfl⟩;kernel_rfl)|refine Y7 ?_|refine Y4 ?_|refine Y1e ?_|refine Y0 ?_|(with_reducible first|apply W.seq|apply W.block|apply W.exit|apply W.skip|apply thenK_n|apply thenK_e|apply roundK_e)|refine Y1 ?_|refine Y3 ?_|refine Yn ?_)
   refine W.loop (X:=Unit) (fun π _=>[(0,.string signsB),(9,.slice (some ⟨π 0,0,none⟩) 45 45),(10,.int .i64 ((0:Nat):Int)),(11,.int .i64 ((0:Nat):Int)),(12,.int .i64 ((0:Nat):Int))]) (fun _=>H) (fun π _=>[(0,some ⟨⟨cellsF 0⟩,9⟩)]) (fun _=>True) (fun _=>0) [0] () trivial (by (refine FitL.mk ?_ ?_ ?_ ?_<;>(repeat' (first|exact trivial|exact rfl|apply And.intro));done)) ?_
   rintro π ⟨⟩ _
   dsimp only
   have f:=field_ok (i:=0) (Nat.le_of_ble_eq_true rfl)
   have hsp:spaceV[0+sgC 0 * 1]?=some (.int .u8 (spaceN (sgC 0):Int)):=by rw [Nat.zero_add,Nat.mul_one];exact space_at (by have:=f.c;omega)
   have hz:spaceN (sgC 0)=0:=rfl
   rw [hz] at hsp
   repeat (first|refine Y4m ?_|((with_reducible apply RS.indexAddrArr);(iterate 4 exact rfl);have:=f.c;omega)|refine Y3g ?_|refine Y7 ?_|refine Yd ?_|refine Y6 ?_|refine Y4 ?_|refine Y1e ?_|refine Y0 ?_|(with_reducible first|apply W.seq|apply W.block|apply W.exit|apply thenK_n|apply thenK_e|apply roundK_e)|refine Y1 ?_|refine Y3 ?_|refine Yn ?_)
   clear f hsp hz
   refine W.loop (X:=Nat × Nat × Nat) (fun π x=>[(0,.string signsB),(9,.slice (some ⟨π 0,0,none⟩) 45 45),(10,.int .i64 (x.2.1:Int)),(11,.int .i64 (x.2.2:Int)),(12,.int .i64 (x.1:Int))]) (fun _=>H) (fun π x=>[(0,some ⟨⟨cellsF x.2.1⟩,9⟩)]) (fun x=>fld2 x.1=x.2∧x.1≤112) (fun x=>112 - x.1) [0] (0,0,0) ⟨rfl,Nat.zero_le _⟩ (by (refine FitL.mk ?_ ?_ ?_ ?_<;>(repeat' (first|exact trivial|exact rfl|apply And.intro));done)) ?_
   rintro π ⟨i,na,fs⟩ ⟨q1,q2⟩
   dsimp only at q1 q2 ⊢
   by_cases hi:i < 112
   ·have f:=field_ok hi
    have hsp:spaceV[0+sgC i * 1]?=some (.int .u8 (spaceN (sgC i):Int)):=by rw [Nat.zero_add,Nat.mul_one];exact space_at (by have:=f.c;omega)
    have hpc:spaceN (sgC i)=0∨spaceN (sgC i)=1:=by have:=f.s;omega
    rcases hpc with hp|hp
    ·rw [hp] at hsp
     repeat (first|refine Y4m ?_|((with_reducible apply RS.indexAddrArr);(iterate 4 exact rfl);have:=f.c;omega)|refine Y3g ?_|refine Y7 ?_|refine Y6 ?_|refine Yp ?_|refine Y1e ?_|refine Y0 ?_|refine Y4p ?_|refine Y1 ?_|refine Y5 ?_|refine Yn ?_)
     refine roundK_n (i+1,na,fs) [0] rfl rfl ⟨?_,hi⟩ (by simp only;omega) (by (refine FitL.mk ?_ ?_ ?_ ?_<;>(repeat' (first|exact trivial|exact rfl|apply And.intro));done))
     show (if spaceN (sgC i)=1 then _ else _)=_
     rw [if_neg (by omega),q1]
    ·have ff:=f.f hp
     rw [q1] at ff
     obtain ⟨f1,f2,f3,f4,f5⟩:=ff
     dsimp only at f1 f2 f5
     rw [hp] at hsp
     have hlen:0+na * 1+1≤(cellsF na).length:=by rw [cellsF_len (by omega)];omega
     have hset:=cellsF_set f2 f5
     repeat (first|refine Y4m ?_|((with_reducible apply RS.indexAddrArr);(iterate 4 exact rfl);have:=f.c;omega)|refine Y3g ?_|((with_reducible apply RS.sliceStr);(iterate 3 exact rfl);exact ⟨_,_,rfl,rfl⟩;exact ⟨_,_,rfl,rfl⟩;omega;omega)|refine Y6m ?_|((with_reducible apply (RS.store (cs':=cellsF (na+1))));(iterate 5 exact rfl);exact hlen;(iterate 2 exact rfl);exact hset)|refine Y7 ?_|refine Y6 ?_|refine Y4 ?_|refine Yp ?_|refine Y1e ?_|refine Y0 ?_|refine Y68 ?_|refine Y1 ?_|refine Y5 ?_|refine Y3 ?_)
     refine W.loop (X:=Unit) (fun π _=>[(0,.string signsB),(9,.slice (some ⟨π 0,0,none⟩) 45 45),(10,.int .i64 ((na+1:Nat):Int)),(12,.int .i64 ((i+1:Nat):Int))]) (fun _=>H) (fun π _=>[(0,some ⟨⟨cellsF (na+1)⟩,9⟩)]) (fun _=>True) (fun _=>0) [0] () trivial (by (refine FitL.mk ?_ ?_ ?_ ?_<;>(repeat' (first|exact trivial|exact rfl|apply And.intro));done)) ?_
     rintro π ⟨⟩ _
     dsimp only
     clear hsp f
     have f:=field_ok f3
     have hsp:spaceV[0+sgC (i+1) * 1]?=some (.int .u8 (spaceN (sgC (i+1)):Int)):=by rw [Nat.zero_add,Nat.mul_one];exact space_at (by have:=f.c;omega)
     rw [f4] at hsp
     repeat (first|refine Y4m ?_|((with_reducible apply RS.indexAddrArr);(iterate 4 exact rfl);have:=f.c;omega)|refine Y3g ?_|refine Y7 ?_|refine Yd ?_|refine Y6 ?_|refine Y4 ?_|refine Y1e ?_|refine Y0 ?_|(with_reducible first|apply W.seq|apply W.exit|apply thenK_n|apply thenK_e|apply blockK_n|apply roundK_e)|refine Y1 ?_|refine Y3 ?_|refine Yn ?_)
     refine roundK_n (i+1,na+1,i+1) [0] rfl rfl ⟨?_,hi⟩ (by simp only;omega) (by (refine FitL.mk ?_ ?_ ?_ ?_<;>(repeat' (first|exact trivial|exact rfl|apply And.intro));done))
     show (if spaceN (sgC i)=1 then _ else _)=_
     rw [if_pos hp,q1]
   ·have e0:i=112:=by omega
    subst e0
    rw [fld2_end] at q1
    injection q1 with e1 e2
    subst e1;subst e2
    have hlen:0+44 * 1+1≤(cellsF 44).length:=Nat.le_of_ble_eq_true rfl
    have hset:=cellsF_set (k:=44) (by decide) last_ok
    repeat (first|refine Y6m ?_|((with_reducible apply (RS.store (cs':=cellsF 45)));(iterate 5 exact rfl);exact hlen;(iterate 2 exact rfl);exact hset)|((with_reducible apply (RS.sliceStr (h0:=112)));(iterate 3 exact rfl);exact ⟨_,_,rfl,rfl⟩;exact rfl;exact Nat.le_of_ble_eq_true rfl;exact Nat.le_of_ble_eq_true rfl)|refine Y7 ?_|refine Y6 ?_|refine Y4 ?_|refine Y1e ?_|refine Y0 ?_|refine Y6j ?_|refine Y1 ?_|refine Y5 ?_|refine Y3 ?_|refine Yn ?_)
    exact endsK_ret _ (.cons (.tmp rfl) .nil) ⟨rfl,0,Nat.lt_succ_self 0,rfl,rfl⟩
 ·intro vs h' w hq hold htf
  obtain ⟨hbase,i,h1,h2,h3⟩:=hq
  rw [h3] at htf
  have hlo:=w.lo i h1
  have hhi:=w.hi i h1
  have hm:=SH.m_loc w h1
  rw [h2] at hm
  rw [hbase] at hlo
  refine TF.leave1 (j:=h'.π i) (htf ?_) hlo hm (fun k hk=>hold k hk hbase) ?_ ?_ ?_
  ·have hden:h'.den.n=h'.π h'.k:=rfl
   simp [hden];omega
  ·intro v hv
   simp only [List.mem_toArray,signV,List.mem_map] at hv
   obtain ⟨_,_,rfl⟩:=hv
   simp
  ·simp
  ·intro ρ ρ2 _ e1 e2
   simp [renAddr,renCap,e1,e2]
theorem GS.of {h H:Hp} (hg:GS h) (hn:0 < h.n) (hb:∀ id,id < h.n→H.m id=h.m id):GS H:=by
 obtain ⟨e,h2⟩:=hg
 exact ⟨e,by rw [hb 0 hn];exact h2⟩
theorem fields_at {h:SH} (hg:GS h.base) (hn:0 < h.base.n) (H:Hp) (hH:Sees h true [] H):TF Tryz.prog 106 ⟨[.string signsB]⟩ H (.slice (some ⟨h.π h.k,0,none⟩) 45 45) (H.push ⟨⟨signV⟩,9⟩):=by
 have:=fields_tf H (hg.of hn (hH.b rfl))
 rw [hH.n] at this;exact this
@[simp] theorem tokV_free (n:Nat) (t:TokS):bnd n (tokV t):=by simp [tokV]
theorem size1 (t:ByteArray) (h:t.size≤1000000):(⟨#[32]⟩:ByteArray).size+t.size≤9223372036854775807:=by
 show 1+t.size≤_;omega
theorem size2 (t:ByteArray) (h:t.size≤1000000):((⟨#[32]⟩:ByteArray)++t).size+(⟨#[32]⟩:ByteArray).size≤9223372036854775807:=by
 rw [ByteArray.size_append];show 1+t.size+1≤_;omega
theorem sign_eq:signL=signList:=rfl
set_option maxRecDepth 100000 in
theorem one_tf (s:ByteArray) (p:Nat) (hp:p < s.size) (hs:s.size≤1000000) (h:Hp) (hg:GL h∧GS h):TF Tryz.prog 56 ⟨[.string s,.int .i64 p]⟩ h (.tuple ⟨[tokV (oneS s p).1,.bool (oneS s p).2]⟩) h:=by
 refine hg.1.tf fun hn=>?_
 refine hg.2.tf fun hn0=>?_
 refine TF.still (fn:=Tryz.f56) (c:=(Tryz.f56.body.getD .skip)) Tryz.func56 (by kernel_rfl) Tryz.ntmps56 (by kernel_rfl) (by (simp [tokV])) ?_
 conv=>arg 2;whnf
 repeat (first|refine Y4i ?_|((with_reducible apply RS.callP);(iterate 3 exact rfl);exact fun H=>(letter_tf _ H);exact Nm_free (by simp))|refine Y7 ?_|refine Y9 ?_|refine Y0 ?_|refine Y41 ?_|refine Y1 ?_)
 with_reducible apply W.cond
 exact rfl
 ·intro hc
  repeat (first|refine Y7 ?_|refine Y0 ?_|refine Y41 ?_|refine Y1 ?_)
  refine W.joinB (X:=Unit) (fun π x=>[(0,.string s),(1,.int .i64 p),(4,.pointer (some ⟨π 0,0,none⟩)),(7,.int .i64 (wordE s p))]) (fun _=>h) (fun π x=>[(0,some ⟨⟨[.int .i64 0,.string ⟨#[]⟩,.int .i64 0,.int .u64 0,.bool false,.bool false]⟩,102⟩)]) (fun x=>p≤wordE s p∧wordE s p≤s.size) 1 ?_ ?_
  ·refine W.loop (X:=Nat) (fun π x=>[(0,.string s),(1,.int .i64 p),(4,.pointer (some ⟨π 0,0,none⟩)),(7,.int .i64 x)]) (fun _=>h) (fun π x=>[(0,some ⟨⟨[.int .i64 0,.string ⟨#[]⟩,.int .i64 0,.int .u64 0,.bool false,.bool false]⟩,102⟩)]) (fun x=>wordE s x=wordE s p∧p≤x∧x≤s.size) (fun x=>s.size - x) [0] p ⟨rfl,Nat.le_refl _,by omega⟩ (by (refine FitL.mk ?_ ?_ ?_ ?_<;>(repeat' (first|exact trivial|exact rfl|apply And.intro));done)) ?_
   intro π k hI
   obtain ⟨q1,q2,q3⟩:=hI
   dsimp only at q1 q2 q3 ⊢
   repeat' (first|refine Y4i ?_|refine Y4g ?_|refine Y7 ?_|refine Yd ?_|refine Yc ?_|refine Y2b ?_|refine Yp ?_|refine Y1e ?_|refine Yk ?_|refine Y0 ?_|(with_reducible first|apply W.seq|apply W.block|apply W.exit|apply W.skip|apply thenK_n|apply thenK_e|apply blockK_n|apply roundK_e)|refine Y1 ?_|refine Y5 ?_|refine Y3 ?_|refine Yn ?_|((refine YD ?_ ?_)<;>intro _)|((refine YG ?_ ?_)<;>intro _)|((refine YC ?_ ?_)<;>intro _)|((refine YN ?_ ?_)<;>intro _))
   ·exact roundK_n (k+1) [0] rfl rfl ⟨(wordE_step (by simp [wordyI, *])).symm.trans q1,by omega,by omega⟩ (by omega) (by (refine FitL.mk ?_ ?_ ?_ ?_<;>(repeat' (first|exact trivial|exact rfl|apply And.intro));done))
   ·exact roundK_n (k+1) [0] rfl rfl ⟨(wordE_step (by simp [wordyI, *])).symm.trans q1,by omega,by omega⟩ (by omega) (by (refine FitL.mk ?_ ?_ ?_ ?_<;>(repeat' (first|exact trivial|exact rfl|apply And.intro));done))
   ·have e:wordE s k=k:=wordE_end (by simp [wordyI, *])
    rw [e] at q1
    subst q1
    exact joinK_n () [0] rfl rfl ⟨q2,q3⟩ (by (refine FitL.mk ?_ ?_ ?_ ?_<;>(repeat' (first|exact trivial|exact rfl|apply And.intro));done))
   ·have e:wordE s k=k:=wordE_end (by rw [chr_ge (by assumption)];decide)
    rw [e] at q1
    subst q1
    exact joinK_n () [0] rfl rfl ⟨q2,q3⟩ (by (refine FitL.mk ?_ ?_ ?_ ?_<;>(repeat' (first|exact trivial|exact rfl|apply And.intro));done))
  ·intro π x hI
   obtain ⟨q1,q2⟩:=hI
   have hex:(s.extract p (wordE s p)).size≤1000000:=by simp;omega
   have hez:(s.extract p (wordE s p)).size=wordE s p - p:=by simp;omega
   repeat' (first|refine Y19 ?_|((with_reducible apply RS.callR true []);(iterate 3 exact rfl);exact fun H hH=>contains_tf _ _ (Nat.le_of_ble_eq_true rfl) H (hg.1.of hn (hH.b rfl));exact Nm_free (by simp))|((with_reducible apply RS.strAdd);(iterate 4 exact rfl);(first|exact size1 _ hex|exact size2 _ hex))|refine Yu ?_|refine Yo ?_|refine Y1e ?_|refine Yh ?_|refine Yg ?_|refine Y2 ?_|refine Y9 ?_|refine Ya ?_|refine Y0 ?_|(with_reducible first|apply W.seq|apply W.ret|apply W.skip|apply thenK_n|apply thenK_r|apply blockK_r)|refine Y1 ?_|((refine YD ?_ ?_)<;>intro _)|((refine YG ?_ ?_)<;>intro _)|((refine YC ?_ ?_)<;>intro _)|((refine YN ?_ ?_)<;>intro _))
   all_goals refine endsK_ret _ (.cons (.cellN rfl rfl rfl (Nat.le_of_ble_eq_true rfl)) (.cons (.tmp rfl) .nil)) ⟨rfl,?_⟩
   all_goals simp only [hez] at *
   all_goals have hle:(decide (((wordE s p - p:Nat):Int)≤40))=decide (wordE s p - p≤40):=(by rw [Bool.eq_iff_iff];simp only [decide_eq_true_eq];omega)
   all_goals rw [hle]
   ·rename_i hx
    have hw:isWord (s.extract p (wordE s p))=true:=decide_eq_true hx
    unfold oneS
    rw [if_pos hc,if_pos hw]
    rfl
   ·rename_i hx
    have hw:isWord (s.extract p (wordE s p))=false:=decide_eq_false hx
    unfold oneS
    rw [if_pos hc,if_neg (by rw [hw];decide)]
    rfl
 ·intro hc
  repeat' (first|((with_reducible apply RS.callP);(iterate 3 exact rfl);first|exact fun H=>(digit_tf _ H);exact Nm_free (by simp)|exact fun H=>(number_tf _ _ (by omega) hs H);exact Nm_free (by simp)|exact fun H=>(char_tf _ _ (by omega) hs H);exact Nm_free (by simp))|((with_reducible apply RS.callN true []);(iterate 3 exact rfl);exact fields_at hg.2 hn0)|((with_reducible first|apply RS.move|apply RS.assign|apply RS.lenSl);iterate 3 exact rfl)|refine Yo ?_|refine Y29 ?_|refine Y2 ?_|refine Y0 ?_|refine Y1m ?_|refine Y1 ?_|((refine YD ?_ ?_)<;>intro _)|((refine YG ?_ ?_)<;>intro _)|((refine YC ?_ ?_)<;>intro _)|((refine YN ?_ ?_)<;>intro _))
  ·refine endsK_ret _ (.cons (.cellN rfl rfl rfl (Nat.le_of_ble_eq_true rfl)) (.cons (.tmp rfl) .nil)) ⟨rfl,?_⟩
   unfold oneS
   rw [if_neg (by simp [hc]),if_pos (by assumption)]
   rfl
  ·refine endsK_ret _ (.cons (.cellN rfl rfl rfl (Nat.le_of_ble_eq_true rfl)) (.cons (.tmp rfl) .nil)) ⟨rfl,?_⟩
   unfold oneS
   rw [if_neg (by simp [hc]),if_neg (by rw [‹digitI (chr s p)=false›];decide),if_pos (by assumption)]
   rfl
  ·have hone:oneS s p=(match signList.find? (signAt s p) with|some x=>(⟨4,⟨⟨x⟩⟩,p,0,false,false⟩,true)|none=>(zeroTok,false)):=by
    unfold oneS
    rw [if_neg (by simp [hc]),if_neg (by rw [‹digitI (chr s p)=false›];decide),if_neg (by assumption)]
    try rfl
   refine W.loop (X:=Nat) (fun π i=>[(0,.string s),(1,.int .i64 p),(4,.pointer (some ⟨π 0,0,none⟩)),(69,.slice (some ⟨π 1,0,none⟩) 45 45),(70,.int .i64 ((45:Nat):Int)),(71,.int .i64 i)]) (fun _=>h) (fun π x=>[(0,some ⟨⟨[.int .i64 0,.string ⟨#[]⟩,.int .i64 0,.int .u64 0,.bool false,.bool false]⟩,102⟩),(1,some ⟨⟨signV⟩,9⟩)]) (fun i=>signList.find? (signAt s p)=(signList.drop i).find? (signAt s p)∧i≤45) (fun i=>45 - i) [0,1] 0 ⟨rfl,by decide⟩ (by (refine FitL.mk ?_ ?_ ?_ ?_<;>(repeat' (first|exact trivial|exact rfl|apply And.intro));done)) ?_
   intro π i hI
   obtain ⟨q1,q2⟩:=hI
   by_cases hi:i < 45
   ·obtain ⟨x,hx⟩:∃ x,signList[i]?=some x:=⟨_,List.getElem?_eq_getElem (show i < signList.length from hi)⟩
    have hsv:signV[0+i * 1]?=some (.string ⟨⟨x⟩⟩):=by
     rw [Nat.zero_add,Nat.mul_one]
     unfold signV
     rw [List.getElem?_map,sign_eq,hx];rfl
    have hdr:signList.drop i=x::signList.drop (i+1):=by
     have hl:i < signList.length:=hi
     rw [List.drop_eq_getElem_cons hl]
     rw [List.getElem?_eq_getElem hl] at hx
     injection hx with hx
     rw [hx]
    repeat' (first|refine Y19 ?_|refine Y6m ?_|((with_reducible apply RS.load1At);(iterate 5 exact rfl);exact hsv)|refine Y66 ?_|refine Y7 ?_|refine Y6 ?_|refine Yp ?_|refine Y2 ?_|refine Ya ?_|refine Y0 ?_|(with_reducible first|apply W.seq|apply W.block|apply W.ret|apply W.skip|apply thenK_n|apply thenK_r|apply blockK_n|apply blockK_r|apply roundK_r)|refine Y1 ?_|refine Y5 ?_|((refine YD ?_ ?_)<;>intro _)|((refine YG ?_ ?_)<;>intro _)|((refine YC ?_ ?_)<;>intro _)|((refine YN ?_ ?_)<;>intro _))
    ·rename_i hx
     have hx':signAt s p x=true:=hx
     refine endsK_ret _ (.cons (.cellN rfl rfl rfl (Nat.le_of_ble_eq_true rfl)) (.cons (.tmp rfl) .nil)) ⟨rfl,?_⟩
     rw [hone,q1,hdr,List.find?_cons,hx']
     rfl
    ·rename_i hx
     have hx':signAt s p x=false:=hx
     exact roundK_n (i+1) [0,1] rfl rfl ⟨by rw [q1,hdr,List.find?_cons,hx'],by omega⟩ (by omega) (by (refine FitL.mk ?_ ?_ ?_ ?_<;>(repeat' (first|exact trivial|exact rfl|apply And.intro));done))
   ·repeat (first|refine Yw ?_|refine Y4 ?_|refine Y2 ?_|refine Ya ?_|refine Y0 ?_|refine Y6j ?_|refine Y1 ?_|refine Y3 ?_|refine Yn ?_)
    have hi45:i=45:=by omega
    subst hi45
    refine endsK_ret _ (.cons (.cellN rfl rfl rfl (Nat.le_of_ble_eq_true rfl)) (.cons (.tmp rfl) .nil)) ⟨rfl,?_⟩
    rw [hone,q1]
    rfl
end Go.Proofs.YtgpigfcagppohaaGreatDoor
