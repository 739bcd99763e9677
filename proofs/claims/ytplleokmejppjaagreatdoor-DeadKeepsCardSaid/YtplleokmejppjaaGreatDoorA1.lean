/- A layer over the rules -/
import Derived.KernelRfl
import Derived.Calls
import Derived.Defers
import Derived.Laws.Append
import Derived.Laws.BytesString
import Derived.Laws.Cells
import Derived.Laws.Entries
import Derived.Laws.Sem
import Derived.Laws.Tables
import Derived.Laws.World
import Derived.LoopN
import Derived.Orders
import Derived.Still
set_option linter.all false
namespace Go
def ew:=@trivial
def mq:=@List.length_set
def dM:=@Nat.le_of_ble_eq_true
def bx:=@Nat.le_trans
def au:=@if_pos
def j5:=@Array.map_congr_left
def dN:=@Nat.lt_succ_self
def ai:=@if_neg
def uj:=@Option.some.inj
def dG:=@Nat.zero_le
def sl:=@Int.le_refl
def yD:=@List.eq_of_mem_replicate
def jP:=@List.not_mem_nil
def eQ:=@Nat.lt_of_lt_of_le
def Ao:=@decide_eq_false
def tj:=@List.getElem?_eq_none_iff
def aaC:=@Nat.le_succ_of_le
def ih:=@List.mem_map
def pW:=@List.map_append
def aaD:=@List.reverse_append
def ha:=@List.mem_append
def pX:=@List.append_assoc
def hq:=@congrArg
def oG:=@List.getD_eq_getElem?_getD
def ey:=@List.getElem?_eq_getElem
def Gs:=@Nat.not_lt_zero
def uk:=@Bool.true_and
def b4:=@Nat.le_refl
def gf:=@List.getElem?_map
def ed:=@decide_eq_true_eq
def tk:=@Int.toNat_of_nonneg
def fl:=@List.getElem?_set
def cS:=@List.getElem?_eq_some_iff
def xp:=@List.take_zero
def mr:=@List.length_eq_zero_iff
def l2:=@List.append_nil
def ff:=@Nat.zero_add
def DQ:=@List.getElem?_toArray
def cA:=@Bool.and_eq_true
def xq:=@List.getElem?_drop
def hr:=@Nat.le_succ
def iV:=@Nat.mul_one
def mu:=@Nat.eq_of_beq_eq_true
def bQ:=@List.mem_of_getElem?
def ry:=@Int.toNat_natCast
def Ap:=@Array.length_toList
def fI:=@List.length_map
def iM:=@List.length_append
def tl:=@List.getElem?_take
def np:=@List.drop_eq_nil_of_le
def Aq:=@Int.not_lt
def e5:=@List.length_cons
def rz:=@List.length_replicate
def iB:=@List.all_eq_true
def IT:=@List.mem_cons_of_mem
def Gt:=@List.eq_nil_of_length_eq_zero
def IU:=@List.length_take
def Gu:=@List.length_filter_le
def IV:=@Nat.le_of_eq
def we:=@Array.map_id
def Uf:=@Nat.pow_succ
def IW:=@Nat.mul_comm
def PN:=@Nat.mul_assoc
def aaE:=@Nat.mul_pos
def gg:=@List.map_cons
def IX:=@List.cons.injEq
def DR:=@Nat.le_add_right
def um:=@Nat.not_lt
def Ug:=@Array.eq_empty_of_size_eq_zero
def Ar:=@Array.getElem?_eq_some_iff
def As:=@List.map_congr_left
def wg:=@Array.getD_eq_getD_getElem?
def IY:=@Array.getElem?_map
def IZ:=@Array.mem_of_getElem?
def aaF:=@Array.mem_or_eq_of_mem_setIfInBounds
def Uh:=@Option.isSome_none
def nN:=@Bool.false_eq_true
def jE:=@if_false
def Ui:=@Array.getElem?_append_left
def aaG:=@Array.getElem?_append_right
def nq:=@Nat.add_zero
def xr:=@of_decide_eq_true
def aaH:=@Array.getElem?_modify
def PO:=@Ne.symm
def kB:=@if_true
def iW:=@Option.map_some
def ajr:=@Array.map_setIfInBounds
def dh:=@Option.some.injEq
def ajs:=@Array.getElem?_push
def aaI:=@Array.mem_extract_iff_getElem
def Uj:=@Array.getElem_mem
def Uk:=@Array.map_append
def aaJ:=@Array.extract_append_extract
def aaK:=@Nat.max_eq_right
def I0:=@Nat.min_eq_left
def I1:=@Array.mem_append
def gG:=@Sem.run_bind
def sn:=@Array.getElem?_eq_getElem
def DS:=@Array.toList_map
def pY:=@Array.getElem?_toList
def ajt:=@Array.getElem?_extract
def uo:=@List.mem_toArray
def gU:=@List.mem_singleton
def Ul:=@Array.all_eq_true'
def hQ:=@Sem.run_pure
def hj:=@Result.andThen_ok
def PQ:=@Array.append_empty
def At:=@List.foldl_cons
def Um:=@Array.foldl_toList
def Un:=@Array.toList_zipIdx
def aaL:=@Array.toList_inj
def Gv:=@List.map_map
def Uo:=@Array.mem_map
def aju:=@Nat.le_mul_of_pos_right
def PR:=@Bool.or_eq_false_iff
def yE:=@decide_eq_false_iff_not
def Gw:=@Array.map_map
def so:=@List.map_toArray
def oH:=@List.map_nil
def kC:=@List.getElem?_cons_zero
def pg:=@List.getElem?_cons_succ
def I2:=@Nat.mul_le_mul_right
def PS:=@Nat.add_sub_cancel_left
def DT:=@Nat.add_mul
def yF:=@Nat.sub_zero
def Up:=@Nat.le_div_iff_mul_le
def Mc:=@Option.map_none
def tm:=@Option.bind_some
def dI:=@List.mem_cons
def PT:=@Array.getElem?_setIfInBounds
def ph:=@Nat.le_of_lt
def Md:=@Bool.and_true
def Uq:=@Bool.and_false
def Ur:=@Bool.or_false
def DU:=@Bool.false_and
def Us:=@Array.getElem_range
def Gx:=@Array.getElem?_eq_none
def uq:=@beq_iff_eq
def k3:=@Array.ext'
def kg:=@List.ext_getElem?
def l3:=@Bool.or_eq_true
def PU:=@List.mem_range
def mV:=@Bool.not_eq_true'
def aaM:=@List.getElem_mem
def PV:=@Nat.lt_trichotomy
def ajv:=@Nat.shiftRight_eq_div_pow
def vg:=@List.length_nil
def Ut:=@Prod.mk.injEq
def j6:=@or_false
def PW:=@List.getElem?_modify
def PX:=@Nat.add_assoc
def Uu:=@Bool.not_true
def PY:=@Nat.lt_or_ge
def I3:=@List.length_reverse
def Uv:=@List.reverse_cons
def ur:=@List.getElem?_append_left
def oI:=@List.getElem?_append_right
def Uw:=@Nat.lt_succ_of_lt
def BU:=@List.size_toArray
def aaN:=@List.mapM_cons
def pZ:=@Value.bool.injEq
def pj:=@Bool.eq_iff_iff
def Gy:=@Nat.mod_lt
def wh:=@List.getElem?_eq_none
def BV:=@List.extract_eq_take_drop
def aaO:=@Array.empty_append
def PZ:=@List.append_toArray
def xt:=@List.drop_drop
def BW:=@List.cons_append
def qE:=@decide_eq_true
def Me:=@Option.isSome_iff_exists
def sq:=@List.drop_eq_getElem_cons
def yG:=@Option.getD_some
def sr:=@Nat.sub_self
def uu:=@Nat.succ_mul
def I4:=@Nat.zero_mul
def ajw:=@List.getElem?_range
def I5:=@List.flatten_cons
def nO:=@List.mem_iff_getElem?
def DV:=@List.length_pos_iff
def Ux:=@List.mem_flatten
def DW:=@List.length_singleton
def ajx:=@Int.tdiv_eq_ediv_of_nonneg
def ajy:=@Int.fdiv_eq_ediv_of_nonneg
def aaP:=@BitVec.ofInt_natCast
def aaQ:=@BitVec.ofNat_toNat
def aaR:=@BitVec.setWidth_eq
def Gz:=@List.mem_of_mem_drop
def GA:=@List.mem_of_mem_take
def aaS:=@Option.isSome_some
def I6:=@List.set_cons_succ
def P0:=@true_and
def Uy:=@false_and
def Uz:=@List.mem_append_left
def aaT:=@List.mem_append_right
def GB:=@Option.map_eq_some_iff
def GC:=@List.take_append_drop
def P1:=@ByteArray.size_append
def I7:=@Bool.and_eq_false_iff
def aaU:=@List.mem_flatMap
def Au:=@Bool.not_eq_false'
def Mf:=@Nat.add_comm
def DX:=@Int.not_le
def Mg:=@and_true
def Av:=@List.getElem?_replicate
def DY:=@List.replicate_succ
def ajz:=@BitVec.eq_of_toNat_eq
def GD:=@List.getElem?_take_of_lt
def BX:=@List.take_succ_eq_append_getElem
def BY:=@List.take_of_length_le
def P2:=@List.filter_append
def aaV:=@List.filter_cons
def UA:=@List.drop_take
def UB:=@List.take_take
def kP:=@Nat.zero_lt_one
def ajA:=@List.count_le_length
def BZ:=@List.set_cons_zero
def vh:=@List.mem_or_eq_of_mem_set
def xu:=@List.map_set
def nP:=@List.sum_cons
def UC:=@List.nil_append
def ajB:=@List.flatten_append
def qF:=@List.set_set
def wi:=@List.take_succ_cons
def mv:=@List.take_length
def P3:=@List.set_append_right
def GF:=@List.mem_map_of_mem
def UD:=@List.pairwise_iff_getElem
def ajC:=@List.pairwise_append
def ajD:=@List.pairwise_singleton
def GG:=@List.nodup_append
def I8:=@List.foldl_append
def I9:=@List.drop_length
def Mh:=@List.drop_zero
def UE:=@List.sum_append
def GH:=@Nat.le_of_succ_le
def UF:=@List.Sublist.refl
def UG:=@Nat.not_le
def UH:=@Option.bind_eq_some_iff
def Aw:=@List.take_add_one
def aaW:=@Decidable.byContradiction
def aaX:=@Int.le_trans
def P4:=@List.length_drop
def ajE:=@List.take_eq_take_iff
def B0:=@Eq.trans
def ajF:=@List.length_take_le'
def UI:=@List.eraseIdx_sublist
def aaY:=@List.getElem?_of_mem
def UJ:=@List.nodup_cons
def ajG:=@List.mem_eraseIdx_iff_getElem?
def B1:=@List.mem_filter
variable{p:Prop}
def ca(h:p:=by(repeat'(first|exact ew|exact rfl|apply And.intro));done):p:=h
def U(h:p:=by omega):p:=h
def ax(h:p:=by kernel_rfl):p:=h
def kD(h:p:=by(refine vi.mk ?_ ?_ ?_ ?_<;>(repeat'(first|exact ew|exact rfl|refine DZ.opt rfl rfl ?_|apply And.intro));done)):p:=h
def aF(h:p:=by simp):p:=h
def ajH(h:p:=by(refine ss.mk [0,1,2,3,4,5,6,7] rfl rfl rfl ?_ ?_ rfl<;>(repeat'(first|exact ew|exact rfl|exact UK mq|apply And.intro));done)):p:=h
def bo(h:p:=by decide):p:=h
def ajI(h:p:=by(repeat'(first|exact ew|exact rfl|exact UK mq|apply And.intro));done):p:=h
def kh(h:p:=by(refine vi.mk ?_ ?_ ?_ ?_<;>exact ca)):p:=h
def ij(h:p:=by simp[aH,Op.operands]):p:=h
def iu(h:p:=by exact dM rfl):p:=h
def hR(h:p:=by dsimp only;omega):p:=h
def UL(h:p:=by exact eK rfl λaD a=>⟨(i+1,cu),by(rw[ki];exact ca),⟨bs,λj b I=>a.up _ _ (bd.up _ _ I),bx bd.le a.le,λak=>by rw[ki] at ak|-;exact⟨(bd.row ak).1,a.up _ _ (bd.row ak).2⟩⟩,U⟩):p:=h
def UM(h:p:=by exact λaD eL=>cC _ _ _ aD (by first|exact nQ|exact jt) eL.UN eL.bk (by first|exact⟨by have:=ajJ.1;omega,ajJ.2⟩|exact⟨by have:=uv.1;omega,uv.2⟩|exact⟨by have:=Ax.1;omega,Ax.2⟩)):p:=h
def xv(h:p:=by simpa using ‹(!(aX s).bb==0)=false›):p:=h
def wj(h:p:=by simp[aH,Op.operands,Call.operands]):p:=h
def h3(h:p:=by assumption):p:=h
def lL(h:p:=by simpa using aE):p:=h
def yH(h:p:=by simpa using ‹(!(aX s).bb==0)=true›):p:=h
def aaZ(h:p:=by(refine xw.mk [0,1,2,3,4] rfl rfl rfl ?_ ?_ rfl<;>exact ca)):p:=h
def lM(h:p:=by simpa using h):p:=h
def jf(h:p:=by simp;omega):p:=h
def Ja(h:p:=by exact cf _ (dt rfl) λaD a=>⟨rfl,λj x aA=>a.up _ _ (a0.up _ _ aA)⟩):p:=h
def UO(h:p:=by exact cf _ (dt rfl) λaD a=>⟨bV,A,c,cJ,rfl,a.up _ _ eF,cZ.mono a.up λ_ _ h=>lp a.up h,aj,ar,(bW.bk.trans aH).trans a.bk⟩):p:=h
def nR(h:p:=by simp only;omega):p:=h
def su(h:p:=by exact cf _ (dt rfl) ajH):p:=h
def GI(h:p:=by show(if ct=ct then _ else _)=_;rw[au rfl]):p:=h
def GJ(h:p:=by show(if aL=aL then _ else _)=_;rw[au rfl]):p:=h
def ajK(h:p:=by exact(B3.cx.off.dB ((cT.set wk xx _).mono (T:=λj=>h.n<=j) λj _ e=>by rw[e];exact ayx)).cx λj aA e=>U):p:=h
def ajL(h:p:=by(refine ss.mk [0,1,2,3,4,5,6,7] rfl rfl rfl ?_ ?_ rfl<;>exact ca)):p:=h
def wm(h:p:=by exact⟨rfl,rfl,rfl,rfl,rfl,ew⟩):p:=h
def sv(h:p:=by rw[he];decide):p:=h
def hS(h:p:=by exact kQ aF):p:=h
def aa0(h:p:=by exact cf _ (dt rfl) λaD a=>⟨bV,A,c,cJ,rfl,a.up _ _ eF,cZ.mono a.up λ_ _ h=>lp a.up h,ao,bA,(bW.bk.trans aH).trans a.bk,bx bW.le hB⟩):p:=h
def P5(h:p:=by exact cf _ (.cons (.Ay rfl rfl rfl (dM rfl)) .nil) ⟨rfl,rfl⟩):p:=h
def GK(h:p:=by exact j5 λv aE=>aP v aE (I v aE)):p:=h
def GL(h:p:=by exact(λaD a=>(a.bJ 0 (bo:(0:Nat)<1)).trans rfl)):p:=h
def Jb(h:p:=by exact cf _ (dt rfl) ⟨rfl,1,dN 1,rfl,rfl⟩):p:=h
def p0(h:p:=by simpa using J):p:=h
def p1(h:p:=by simpa using ej):p:=h
def B4(h:p:=by show _-(i+1)<_-i;omega):p:=h
def uw(h:p:=by rw[g.ev aN];rfl):p:=h
def UP(h:p:=by simp[Op.operands,Call.operands] at kE|-;first|exact kE|exact .inr kE|exact .inl kE):p:=h
def xy(h:p:=by exact absurd h0 (UQ _ bo)):p:=h
def UR(h:p:=by exact cf _ (dt rfl) λaD a=>⟨rfl,λj z aA=>a.up _ _ (a4.up _ _ (ux _ _ (a0.up _ _ aA)))⟩):p:=h
def GM(h:p:=by rw[di,ai bY,au dk];simp):p:=h
def aa1(h:p:=by obtain rfl:=uj aa;obtain rfl:=uj aN;exact ayy rfl rfl rfl rfl rfl rfl rfl (dG _) rfl):p:=h
def aa2(h:p:=by exact cf _ (dt rfl) λaD a=>⟨qG,sw,rfl,e1.up a.up,(mw.bk.trans oh).trans a.bk,λq aG=>bx mw.le (GN q aG)⟩):p:=h
def tn(h:p:=by simpa using ab):p:=h
def P6(h:p:=by exact⟨l,t+1,_,rfl,U,xz,sl _,rfl,kR.set US,fS.none _ _⟩):p:=h
def UT(h:p:=by rw[yD ao];exact λf ar=>absurd ar jP):p:=h
def Mi(h:p:=by exact⟨by show(_:Int)<=0;omega,by show(0:Int)<=_;omega⟩):p:=h
def xA(h:p:=by rwa[lq]):p:=h
def aa3(h:p:=by rw[(eS g (eQ bf aH.kF)).1,(eS g (eQ bf aH.kF)).2.2];exact aH.fu g bf):p:=h
def ajM(h:p:=by exact B3.i.set ayz D0 (x:=fT n0 s) (by rw[Jc];exact ajN)):p:=h
def Jd(h:p:=by simp[Op.operands,Call.operands]):p:=h
def ayA(h:p:=by(refine ss.mk [0,1,9,3,4,5,6,7] rfl rfl rfl ?_ ?_ rfl<;>exact ca)):p:=h
def qH(h:p:=by rw[e];rfl):p:=h
def aa4(h:p:=by exact cf _ (dt rfl) λaD y=>⟨by rw[nr];rfl,λj x aA=>y.up _ _ (nQ.cx.up a0.aO _ _ (a0.up _ _ aA))⟩):p:=h
def ajO(h:p:=by exact λH b7=>(show bc _ _ _ H (bm 0) H by have h0:=UU p bA.ok (λf ar b I x aa=>bx (bA.ajP f ar b I x aa) bo) aU eV cK d1 cM d2 H (bh.up (pk b7 aq));rw[au bA.right] at h0;exact h0)):p:=h
def UW(h:p:=by simp only[IntKind.wrap,IntKind.signed,IntKind.bits];simp;omega):p:=h
def P7(h:p:=by show(if r=r then _ else _)=_;rw[au rfl]):p:=h
def Mj(h:p:=by exact sx [] .nil (λaD a=>⟨rfl,a.up⟩)):p:=h
def GO(h:p:=by exact cf _ (dt rfl) ⟨rfl,rfl⟩):p:=h
def p2(h:p:=by simp at h):p:=h
def ajQ(h:p:=by(refine ss.mk [0,1,2,3,4,5,6,7] rfl rfl rfl ?_ ?_ rfl<;>(repeat'(first|exact ew|exact rfl|exact ns _ bo (oJ rfl)|exact UK mq|apply And.intro));done)):p:=h
def aa5(h:p:=by rw[‹(!B5 x.1)=true›,Ao ‹¬x.1.dst<0›,‹(!cU s x.1.dst)=false›];decide):p:=h
def Az(h:p:=by rwa[sy]):p:=h
def yI(h:p:=by simpa using ak):p:=h
def UX(h:p:=by rw[tj] at ar|-;have:=h.len;omega):p:=h
def yJ(h:p:=by simpa using nS):p:=h
def ajR(h:p:=by exact eK rfl λaD a=>⟨(i+1,GP),by(rw[ki,<-UY];exact ca),⟨bs,λj b I=>a.up _ _ (AA.up _ _ I),bx AA.le a.le,λak=>⟨(AA.row ak).1,a.up _ _ (AA.row ak).2⟩⟩,U⟩):p:=h
def aa6(h:p:=by exact cf _ (dt rfl) λaD a=>⟨by rw[<-gw];rfl,λj x aA=>a.up _ _ (eC.up aq _ _ aA)⟩):p:=h
def UZ(h:p:=by exact⟨λk aj=>.inl ((c s _).1 k aj),aaC (c s _).2⟩):p:=h
def P8(h:p:=by obtain⟨x,_,rfl⟩:=ih.1 aE;simp):p:=h
def U0(h:p:=by rw[pW,aaD];exact oK):p:=h
def Je(h:p:=by have:=bz.rA.rB;omega):p:=h
def aa7(h:p:=by rw[AB,P9];rw[show nT (bC b0) b.av=_ from hT] at gw;exact gw):p:=h
def U1(h:p:=by intro c aB;obtain⟨z,_,rfl⟩:=ih.1 aB;rfl):p:=h
def U2(h:p:=by show(if aR=aR then _ else _)=_;rw[au rfl]):p:=h
def Mk(h:p:=by rw[ak U];exact fS.none _ _):p:=h
def B6(h:p:=by simpa using aa):p:=h
def Jf(h:p:=by rw[hs];simp;omega):p:=h
def Qa(h:p:=by rw[tj];omega):p:=h
def ayB(h:p:=by exact(yK.cx.off.dB ((cT.set iN cq _).mono (T:=λj=>h.n<=j) λj _ e=>by rw[e];exact cj (ha.2 (.inr Qb)) yK)).cx λj aA e=>U):p:=h
def B7(h:p:=by show i+1<=_;omega):p:=h
def yL(h:p:=by simp[dX]):p:=h
def U3(h:p:=by rw[pW,pX];exact p.os):p:=h
def ajS(h:p:=by exact cf _ (dt rfl) λaD a=>⟨_,_,rfl,.inr ⟨_,rfl,a.bJ 3 (bo:(3:Nat)<4)⟩,a.bk,λq aG=>by injection aG with aG;rw[<-aG];exact a.bL 3 (bo:(3:Nat)<4)⟩):p:=h
def ayC(h:p:=by(refine ss.mk [0,1,8,3,4,5,6,7] rfl rfl rfl ?_ ?_ rfl<;>exact ajI)):p:=h
def ajT(h:p:=by(refine ss.mk [0,1,2,3,4,5,6,7] rfl rfl rfl ?_ ?_ rfl<;>(repeat'(first|exact ew|exact rfl|exact cy _ aF|apply And.intro));done)):p:=h
def U4(h:p:=by exact ajU (b':=⟨b.ah++o.ah,fM,b.av⟩) I U xB rfl):p:=h
def U5(h:p:=by show(aX s).bu<=(aX s).b9+k;omega):p:=h
def B8(h:p:=by rw[bP]<;>simp):p:=h
def B9(h:p:=by rw[bw]<;>simp):p:=h
def U6(h:p:=by exact j5 λv aE=>wo v aE (I.2 v aE)):p:=h
def U7(h:p:=by exact j5 λv aE=>yM v aE (I.1 v aE)):p:=h
def aa8(h:p:=by exact(hq (λz=>some (Value.slice dr z AD)) (uy s.eg).symm)):p:=h
def GQ(h:p:=by have:=h.len;omega):p:=h
def U8(h:p:=by rw[show kj p=false by unfold kj;simp;omega];rfl):p:=h
def U9(h:p:=by simp[aH,Op.operands];cases bL<;>simp_all):p:=h
def Va(h:p:=by simp[aH,Op.operands];cases ag<;>simp_all):p:=h
def Ca(h:p:=by simp[aV.push]):p:=h
def Vb(h:p:=by show _∈di b.av;rw[Cb hk];simp):p:=h
def Qc(h:p:=by unfold Addr.add;split<;>simp_all):p:=h
def Ml(h:p:=by show s.b9<=s.b9;omega):p:=h
def aa9(h:p:=by rw[oG,ey bs];rfl):p:=h
def Mm(h:p:=by unfold lN;split<;>rfl):p:=h
def Jg(h:p:=by unfold gk;split<;>rfl):p:=h
def GR(h:p:=by simpa using dO):p:=h
def Qd(h:p:=by show t+1<=(aX s).b9;omega):p:=h
def Qe(h:p:=by exact absurd hb (Gs _)):p:=h
def Cc(h:p:=by exact fS.none _ _):p:=h
def Vc(h:p:=by exact(λaD a=>(a.bJ 1 (bo:(1:Nat)<2)).trans rfl)):p:=h
def GS(h:p:=by simpa using hu):p:=h
def yN(h:p:=by simp[aN]):p:=h
def yO(h:p:=by simp[aa]):p:=h
def aba(h:p:=by exact cf _ (dt rfl) λaD y=>⟨rfl,(bW.bk.trans xC).trans y.bk⟩):p:=h
def D1(h:p:=by simpa using he):p:=h
def Jh(h:p:=by rw[jF];omega):p:=h
def abb(h:p:=by rw[a.cx j aA];show(if j=aL then _ else _)=_;rw[ai J]):p:=h
def Ji(h:p:=by have:=rC.1 h;omega):p:=h
def Jj(h:p:=by exact⟨l,rfl,λgc=>key gc U⟩):p:=h
def yP(h:p:=by exact .inr ⟨k,aF,rfl⟩):p:=h
def abc(h:p:=by intro e;rw[e] at bs;exact absurd bs (Gs _)):p:=h
def abd(h:p:=by intro e;rw[e] at kG;exact absurd kG (Gs _)):p:=h
def ajV(h:p:=by exact mW (i+1) [0] rfl rfl ⟨U,by rw[bd,show(decide (0<=n)&&decide (n<f.blocks.length))=true by simp;omega,uk]⟩ U kh):p:=h
def ajW(h:p:=by exact xD (o:=7) (b':={b with av:={b.av with goto:=jg (bC b0) b.av.goto}}) I U (dM rfl) rfl):p:=h
def abe(h:p:=by have:=aC.l i (Qf i []) (iC.1 ag);rwa[this]):p:=h
def ayD(h:p:=by(refine xw.mk [0,1] rfl rfl rfl ?_ ?_ rfl<;>exact ca)):p:=h
def Vd(h:p:=by rw[di,ai U,au ch];simp):p:=h
def abf(h:p:=by injection aJ with aJ;subst aJ;exact .inr (b4 _)):p:=h
def Qg(h:p:=by rw[lr] at aQ;exact absurd aQ.1 hl):p:=h
def xE(h:p:=by exact b4 _):p:=h
def Qh(h:p:=by rw[di,au bY];simp):p:=h
def abg(h:p:=by have:=aC.l j (l4.2 aF) (iC.1 tp);rwa[this]):p:=h
def GU(h:p:=by rw[sub]<;>simp):p:=h
def Jk(h:p:=by unfold b8;omega):p:=h
def Ve(h:p:=by simpa[fN] using Qi _ _):p:=h
def Vf(h:p:=by rw[pW,<-xF];rfl):p:=h
def Vg(h:p:=by rw[gf,D2];rfl):p:=h
def dm(h:p:=by exact this):p:=h
def Jl(h:p:=by simpa using aN):p:=h
def abh(h:p:=by show(aX s2).bu-(aX s2).b9<_;omega):p:=h
def Jm(h:p:=by simpa using aS):p:=h
def abi(h:p:=by show(if bO=bO then _ else _)=_;rw[au rfl]):p:=h
def Mn(h:p:=by exact cf _ (dt rfl) aaZ):p:=h
def Vh(h:p:=by show(aX s).bu<N;omega):p:=h
def Qj(h:p:=by exact⟨bV,A,c,cJ,rfl,eF,cZ,bY,dk,aH⟩):p:=h
def Jn(h:p:=by rwa[<-aC i mX]):p:=h
def abj(h:p:=by exact λB cF=>⟨cF.bJ 0 (dN 0),tq.up cF.up⟩):p:=h
def Mo(h:p:=by simpa using mx):p:=h
def Vi(h:p:=by rw[ed];omega):p:=h
def p3(h:p:=by exact ew):p:=h
def ajX(h:p:=by exact xD (o:=7) (b':={b with av:={b.av with goto:=yQ}}) ht U (dM rfl) rfl):p:=h
def ajY(h:p:=by exact(show _=some (Value.int IntKind.i64 (n:Int)) from hq (λz=>some (Value.int IntKind.i64 z)) ak)):p:=h
def ajZ(h:p:=by exact(show _=some (Value.int IntKind.i64 (m:Int)) from hq (λz=>some (Value.int IntKind.i64 z)) hm)):p:=h
def Qk(h:p:=by simp[D3,sA,bC]):p:=h
def abk(h:p:=by simp[default,instInhabitedValue.default]):p:=h
def Jo(h:p:=by simp[eY.add]):p:=h
def Vj(h:p:=by rw[<-vj];exact aj0 _ _):p:=h
def Vk(h:p:=by rw[au aB] at ek;cases ek):p:=h
def D4(h:p:=by simp[aK]):p:=h
def abl(h:p:=by rcases he with e|e|e|e<;>rw[e]<;>decide):p:=h
def Mp(h:p:=by simpa using p4):p:=h
def Ql(h:p:=by simp only[lu,J]):p:=h
def GV(h:p:=by rw[dC];rfl):p:=h
def abm(h:p:=by rw[Cd (Vl (by unfold p5;simp;omega))];rfl):p:=h
def Vm(h:p:=by rw[<-List.tail_drop,aq];rfl):p:=h
def Vn(h:p:=by rw[J];decide):p:=h
def Qm(h:p:=by intro k _ aj;omega):p:=h
def aj1(h:p:=by exact(show _=_ from hq (λz=>some (Value.int IntKind.i64 z)) (tk U).symm)):p:=h
def Jp(h:p:=by exact aj2 _ _ _ _):p:=h
def Jq(h:p:=by simp[Qn]):p:=h
def GW(h:p:=by rwa[<-hm]):p:=h
def Vo(h:p:=by have⟨ρ,W,aH⟩:=s;exact aH.kF):p:=h
def aj3(h:p:=by exact yR i b (Jr i b I sv) sv):p:=h
def aj4(h:p:=by rw[fl,au rfl,au (cS.1 Qo).1]):p:=h
def Vp(h:p:=by exact⟨rfl,rfl,rfl,rfl,rfl,rfl,ew⟩):p:=h
def Ce(h:p:=by exact⟨_,_,rfl,rfl⟩):p:=h
def Vq(h:p:=by show((0:Nat):Int)<=0;omega):p:=h
def Qp(h:p:=by simpa using lO):p:=h
def Vr(h:p:=by rwa[aC.b rfl blk bs]):p:=h
def Vs(h:p:=by rw[ab];simpa using ak):p:=h
def aj5(h:p:=by show(ah.set i dT)[i]?=_;rw[fl,au rfl,au U]):p:=h
def aj6(h:p:=by exact cf _ (dt rfl) λaD a=>⟨by rw[ak];rfl,λj x aA=>a.up _ _ (eC.up aq _ _ aA)⟩):p:=h
def Mq(h:p:=by simp[lP]):p:=h
def Qq(h:p:=by rwa[w.cm]):p:=h
def abn(h:p:=by rwa[show i+1+j=i+(j+1) by omega]):p:=h
def Vt(h:p:=by rw[Js];omega):p:=h
def aj7(h:p:=by rw[fl,au rfl,au (by rw[Jt uz];omega)]):p:=h
def Vu(h:p:=by rw[xp];rfl):p:=h
def aj8(h:p:=by exact(ez.fa (dD i) _ (hm i b I)).conv rfl rfl em.symm (λ_=>rfl) rfl (uA i b I)):p:=h
def Qr(h:p:=by simpa using jG):p:=h
def GX(h:p:=by rw[aq.eq]):p:=h
def aj9(h:p:=by intro e;rw[e] at Cf;exact nt (mr.1 Cf.symm)):p:=h
def abo(h:p:=by exact ai ‹¬x.dst>=0› ▸ cf _ (dt rfl) ajL):p:=h
def abp(h:p:=by exact cf _ (.cons (.Ay rfl rfl rfl (dM rfl)) .nil) ayD):p:=h
def aka(h:p:=by repeat'(first|exact p3|exact .inl rfl|exact .inr rfl|apply And.intro)):p:=h
def akb(h:p:=by have:=k4.yS;dsimp only at this;rw[mq] at this;exact dm):p:=h
def akc(h:p:=by show(if B.n=B.n then _ else _)=_;rw[au rfl,l2]):p:=h
def abq(h:p:=by exact⟨_,f1,J,ch,aj,dJ,s1,b1,g1,iO.ayE t1 aF⟩):p:=h
def ayF(h:p:=by exact AE (λi ag aM=>by have:=aM.1;omega) _ (aa.abr id b rD v aE)):p:=h
def abt(h:p:=by exact au ‹x.dst>=0› ▸ cf _ (dt rfl) ajH):p:=h
def Qs(h:p:=by simpa using ag):p:=h
def abu(h:p:=by rw[‹(!B5 x.1)=false›];simp):p:=h
def Vv(h:p:=by rw[lQ,bd];simp;omega):p:=h
def akd(h:p:=by rw[ai (show¬oL (hC s l t) aI n from ab),ai ab,Vw,ayG]):p:=h
def ake(h:p:=by exact cf _ (dt rfl) λaD a=>⟨by rw[ar];rfl,λj b I=>a.up _ _ (hu _ _ I)⟩):p:=h
def akf(h:p:=by exact yT (l5 q.2 (by simp[aH,Op.operands];exact⟨q.1,by simpa using aG⟩)) v aE):p:=h
def Qt(h:p:=by simpa using hm):p:=h
def Qu(h:p:=by simpa using aA):p:=h
def abv(h:p:=by rw[<-uy s.eg];rfl):p:=h
def akg(h:p:=by rw[g.ev aN];unfold Vx;rw[sy];simpa using mx):p:=h
def akh(h:p:=by rw[abw];have:=(cS.1 aJ).1;omega):p:=h
def abx(h:p:=by rw[gf,aa];rfl):p:=h
def Vy(h:p:=by exact⟨λb5=>⟨U,b5⟩,λb5=>b5.2⟩):p:=h
def aki(h:p:=by cases dz<;>simp[Builtin.firstCells,loadCells,loadCellsFrom]):p:=h
def akj(h:p:=by show(if j=r then _ else lv.m j)=_;rw[ai bM];exact aN):p:=h
def akk(h:p:=by rw[ai (show¬oL (fg s l) aI n from ab),ai ab,akl,ayH]):p:=h
def aby(h:p:=by exact⟨rfl,rfl,rfl,rfl,rfl,rfl,rfl,rfl,ew⟩):p:=h
def abz(h:p:=by exact⟨e,f4,br,a4,ju,Cg,Qv,Ju,g4,sB.next t3 t4⟩):p:=h
def abA(h:p:=by simpa using aG):p:=h
def D5(h:p:=by simp at J):p:=h
def Vz(h:p:=by rwa[ff]):p:=h
def abB(h:p:=by rw[di,au h.bp];simp):p:=h
def VA(h:p:=by rw[ba];exact ayI):p:=h
def GY(h:p:=by simp at ab):p:=h
def akm(h:p:=by show cs.toArray[off]?=_;rwa[DQ,<-abC]):p:=h
def ayJ(h:p:=by exact D6.sC rfl λt v aE=>(show tr _ _ by exact ca).get t v aE):p:=h
def xG(h:p:=by exact .inl rfl):p:=h
def yU(h:p:=by cases aJ):p:=h
def Qw(h:p:=by simpa using aj):p:=h
def Mr(h:p:=by rwa[fv]):p:=h
def akn(h:p:=by rw[aH.2 i (eQ ag o.1) (λe=>U),o.2 i ag]):p:=h
def Qx(h:p:=by rw[ba,Qy];rfl):p:=h
def VB(h:p:=by rwa[yV]):p:=h
def abD(h:p:=by simp only[aY.of] at ag;omega):p:=h
def ako(h:p:=by simp[e6,cA,ed] at ab;omega):p:=h
def VC(h:p:=by rw[o.AF,o.yS]):p:=h
def Qz(h:p:=by rw[he];simp):p:=h
def akp(h:p:=by exact⟨v,aY.of H',by rwa[s1.a6],s1.wf,aG v H' _ q s1 ((bE.ik gB aj s b).1)⟩):p:=h
def VD(h:p:=by simp[aV.push,aV.fB]):p:=h
def abE(h:p:=by exact⟨e,f',aw,b6,bY,dJ,s1,b1,g1,sB.loop t1⟩):p:=h
def akq(h:p:=by exact λH b7=>(GZ b.av.goto wq.goto H (oM.up (G0 uB b7)))):p:=h
def abF(h:p:=by rw[<-e];exact ayK bh):p:=h
def akr(h:p:=by rw[show x.fU id=false from ayL id] at he;cases he):p:=h
def aks(h:p:=by rw[au aA,xq,ff,G1 yW i j aA,aJ];rfl):p:=h
def akt(h:p:=by rw[ai fh] at ag;exact hc (hr _) u (aH.dP _ _ ag u hu)):p:=h
def Ms(h:p:=by simp[eZ]):p:=h
def Mt(h:p:=by simp[ag]):p:=h
def aku(h:p:=by show cs.toArray[off]?=_;rwa[DQ]):p:=h
def akv(h:p:=by rw[ff,iV,gf,pn];rfl):p:=h
def akw(h:p:=by injection g1 with g1;injection g1 with g1;exact g1.symm):p:=h
def akx(h:p:=by have:=aC.l i (l4.2 aF) (iC.1 wu);rwa[this]):p:=h
def abG(h:p:=by exact absurd (mu I) h):p:=h
def aky(h:p:=by exact(show cr 0 4 (hd p cK d1 cM d2)=hd p cK d1 cM d2 from rfl)):p:=h
def abH(h:p:=by unfold yX;simp;omega):p:=h
def akz(h:p:=by unfold Proofs.YtplleokmejppjaaGreatDoor.tt;rw[I]):p:=h
def QA(h:p:=by rwa[w.ah]):p:=h
def akA(h:p:=by rw[tj] at aj|-;have:=h.len;omega):p:=h
def akB(h:p:=by have:=aC.l i (Qf i _) (iC.1 ag);rwa[this]):p:=h
def akC(h:p:=by exact o.c4 j k x' VE J g1 (by rwa[ab]) (by rwa[g2]) (by rwa[aK,g3])):p:=h
def VF(h:p:=by exact cf _ (dt rfl) ayA):p:=h
def yY(h:p:=by simp[h]):p:=h
def Mu(h:p:=by simp_all):p:=h
def QB(h:p:=by simp[nU]):p:=h
def abI(h:p:=by rw[VG uz];exact I):p:=h
def abJ(h:p:=by rw[aC.size];exact r.lt):p:=h
def abK(h:p:=by rw[G2];exact vk aH):p:=h
def akD(h:p:=by simp[cA,ed];omega):p:=h
def akE(h:p:=by show(if aU=aU then _ else _)=_;rw[au rfl]):p:=h
def akF(h:p:=by show(if B.n=B.n then _ else _)=_;rw[au rfl]):p:=h
def abL(h:p:=by exact⟨some (fJ ρ b),jv ρ b c,aF⟩):p:=h
def ayM(h:p:=by exact AE (λi ag aM=>by have:=aM.1;omega) _ aa.bv):p:=h
def akG(h:p:=by exact λH b7=>(abM b.av.a wq.a H (oM.up (G0 uB b7)))):p:=h
def VH(h:p:=by exact bQ aa):p:=h
def QC(h:p:=by simp[yZ]):p:=h
def akH(h:p:=by show(if i=B.n then _ else B.m i)=_;rw[ai U]):p:=h
def abN(h:p:=by rwa[uC.b rfl bt bs]):p:=h
def VI(h:p:=by rwa[QD]):p:=h
def VJ(h:p:=by rw[b5];decide):p:=h
def akI(h:p:=by have:=eM.get h;rw[ff] at this;exact dm):p:=h
def akJ(h:p:=by simp[aH,Op.operands];exact⟨i,by simpa using bh⟩):p:=h
def akK(h:p:=by show(if q=q then _ else _)=_;rw[au rfl]):p:=h
def akL(h:p:=by show(if _=_ then _ else _)=_;rw[au rfl]):p:=h
def akM(h:p:=by exact⟨Mv ao _,wv,(D7 _ _).trans (VK _ _ bo)⟩):p:=h
def akN(h:p:=by simp only[IntKind.bits,ry];omega):p:=h
def akO(h:p:=by rw[au (show oL (hC s l t) aI n from ab),au ab];rfl):p:=h
def abO(h:p:=by rw[QE];omega):p:=h
def Jv(h:p:=by rw[bw]):p:=h
def jh(h:p:=by cases h):p:=h
def akP(h:p:=by unfold tu;rw[ai U,ai U,au U]):p:=h
def akQ(h:p:=by unfold p5;rw[Ao bM];simp):p:=h
def akR(h:p:=by rw[au (show my (hC s l t) aI n from J),au J];rfl):p:=h
def VL(h:p:=by rw[akS];simp):p:=h
def akT(h:p:=by rw[au (show oL (fg s l) aI n from ab),au ab];rfl):p:=h
def akU(h:p:=by exact⟨e,f1,J,ch,bY,dJ,s1,b1,g1,iO.cond (akV aj) (g.ev aB) t1⟩):p:=h
def akW(h:p:=by exact aM.up λi b I lq=>Jw (akX i b I xA xA xA) xA xA):p:=h
def akY(h:p:=by simpa using ‹(!decide (a.length=b.length))=false›):p:=h
def akZ(h:p:=by show(po _ _ _ _).length<=_;rwa[Ch]):p:=h
def ak0(h:p:=by show(if i=i then _ else _)=_;rw[au rfl]):p:=h
def ak1(h:p:=by show(134217728-4032*0:Int)<=134217728;omega):p:=h
def Mw(h:p:=by rwa[VM]):p:=h
def abP(h:p:=by rw[au a1,au a1];split<;>rfl):p:=h
def ak2(h:p:=by rw[au (show my (fg s l) aI n from J),au J];rfl):p:=h
def ak3(h:p:=by exact mW (i+1) [] rfl rfl ⟨U,bd▸decide_eq_decide.2 aF⟩ U kh):p:=h
def ak4(h:p:=by unfold y0;rw[ai (by rw[D8];decide)]):p:=h
def ak5(h:p:=by simpa using ‹(!decide (a.length=b.length))=true›):p:=h
def abQ(h:p:=by simpa using aS.symm):p:=h
def VN(h:p:=by rw[hw];simp):p:=h
def VO(h:p:=by rw[aq];simp):p:=h
def Jx(h:p:=by rw[e]):p:=h
def ak6(h:p:=by rw[fl,au rfl,au lR]):p:=h
def ak7(h:p:=by rw[fl,au rfl,au Qq]):p:=h
def VP(h:p:=by exact⟨J,ab,aK,br,cz,gx,j7⟩):p:=h
def ak8(h:p:=by exact aM.up λi b I lq=>Jw (eT J i b I lq) xA xA):p:=h
def VQ(h:p:=by decide +kernel):p:=h
def ak9(h:p:=by show _∈di b.av;rw[Mx fV];simp):p:=h
def ala(h:p:=by rw[<-Ap,<-ao,fI]):p:=h
def abR(h:p:=by rw[au e,au e,e,My w];rfl):p:=h
def alb(h:p:=by exact⟨A,cap,aj _ _ J aF,ab.eT λi b I he=>aj i b I sv,aK⟩):p:=h
def abS(h:p:=by simpa[hD] using h):p:=h
def QF(h:p:=by simp[aG]):p:=h
def QG(h:p:=by simp[J]):p:=h
def alc(h:p:=by show(if _ then _ else _)=_;rw[au ag]):p:=h
def abT(h:p:=by rwa[sy,aK]):p:=h
def abU(h:p:=by rw[e] at a7;cases a7):p:=h
def ald(h:p:=by rcases he with e|e|e<;>rw[e]<;>decide):p:=h
def ale(h:p:=by have:=eF.yS;dsimp only at this;omega):p:=h
def alf(h:p:=by exact⟨ab.1.trans J.1,ab.2.1.trans J.2.1,ab.2.2.trans J.2.2⟩):p:=h
def abV(h:p:=by exact⟨c,aA,b4 _,.refl _ _⟩):p:=h
def abW(h:p:=by exact⟨c,ag,b4 _,.refl _ _⟩):p:=h
def alg(h:p:=by exact D9 (i+1) [0,1,2,3,4,5,6,7,11] rfl rfl ⟨bB,U⟩ U kD):p:=h
def abX(h:p:=by exact vl (o:=1) ht U bo rfl):p:=h
def alh(h:p:=by dsimp only;exact Mz▸nQ.up s1.aO y.bk):p:=h
def ali(h:p:=by simp only[iM];omega):p:=h
def alj(h:p:=by simp[dC,Op.operands,Call.operands]):p:=h
def VR(h:p:=by rw[<-gl];rfl):p:=h
def abY(h:p:=by rw[ayN];omega):p:=h
def alk(h:p:=by exact⟨rfl,Ci.self _ (cQ.bp b (bQ J))⟩):p:=h
def alm(h:p:=by exact⟨e,f1,J,ch,bY,dJ,s1,b1,g1,iO.cond trivial (g.ev aB) t1⟩):p:=h
def aln(h:p:=by exact ayO (ns 6 bo (oJ rfl)) (ns 7 bo (oJ rfl))):p:=h
def alo(h:p:=by unfold G3;rw[ai U,ai U]):p:=h
def alp(h:p:=by simpa using ‹((gH l t.b).bp != 1)=false›):p:=h
def alq(h:p:=by simpa using ‹((gH l t.a).bp != 1)=false›):p:=h
def alr(h:p:=by simpa using bQ aN):p:=h
def als(h:p:=by simpa using bQ aa):p:=h
def alu(h:p:=by rwa[tl,au l6]):p:=h
def abZ(h:p:=by exact vl (o:=1) I U bo rfl):p:=h
def Jy(h:p:=by cases aj):p:=h
def alv(h:p:=by unfold aX;split<;>(try split)<;>rfl):p:=h
def VS(h:p:=by simp[oN]):p:=h
def alw(h:p:=by rw[np U,np U]):p:=h
def alx(h:p:=by simp[binOp,Op.shift,Aq.2 I]):p:=h
def aly(h:p:=by rwa[show k+1+i=k+(i+1) by omega]):p:=h
def alz(h:p:=by rw[lr] at aQ;have⟨x,aa,_⟩:=aQ;rw[xH] at aa;cases aa):p:=h
def VT(h:p:=by simp[fT]):p:=h
def VU(h:p:=by rw[ai a1,ai a1]):p:=h
def VV(h:p:=by rw[VM];rfl):p:=h
def ab0(h:p:=by rw[Cj];omega):p:=h
def ab1(h:p:=by rw[qI,jF]):p:=h
def ab2(h:p:=by rw[lq,Ck];rfl):p:=h
def alA(h:p:=by rw[yR bO _ (Jr bO _ cZ aF) aF,cZ]):p:=h
def alB(h:p:=by rw[Jz];unfold mY;rw[ai vm]):p:=h
def alC(h:p:=by rw[J] at ab;cases ab;exact .refl _):p:=h
def alD(h:p:=by rw[ch,e5] at ak;omega):p:=h
def alE(h:p:=by rw[rz];omega):p:=h
def alF(h:p:=by intro b;unfold jv;rw[au U]):p:=h
def alG(h:p:=by exact⟨b4 _,λi b I=>⟨bF.aO i b I,bF.dP i b I⟩⟩):p:=h
def alH(h:p:=by exact vn (alI G (ws++m1) m2) v (b1 v aE)):p:=h
def alJ(h:p:=by exact λu hu=>ab3 (iB.1 h u GS)):p:=h
def MA(h:p:=by exact absurd h0 aC):p:=h
def alK(h:p:=by simp only[MB] at h;congr 1;omega):p:=h
def Ea(h:p:=by simp[aA]):p:=h
def VW(h:p:=by simp[bf]):p:=h
def alL(h:p:=by show(nV p b2 bI).length<=_;omega):p:=h
def alM(h:p:=by rw[ai (show¬(fg s l).bb=0 from h0),ai h0]):p:=h
def alN(h:p:=by rw[fv];exact MC aJ):p:=h
def alO(h:p:=by intro e;rw[e] at D2;simp at D2):p:=h
def QH(h:p:=by exact⟨lx,p6,jw⟩):p:=h
def ab4(h:p:=by exact cf _ (dt rfl) ayC):p:=h
def alP(h:p:=by unfold e6 at dC;simpa using dC):p:=h
def alQ(h:p:=by subst e;rw[r.MD] at bh;cases bh.1):p:=h
def ab5(h:p:=by simpa using aM):p:=h
def ab6(h:p:=by rw[ayP,QI,bf]):p:=h
def ab7(h:p:=by rw[e];exact ayQ):p:=h
def alR(h:p:=by rw[gf,VX];rfl):p:=h
def alS(h:p:=by have:=congrFun vo j;rw[<-aK,<-this]):p:=h
def alT(h:p:=by exact⟨this,_,aM ρ' W' ez,ρ',rfl,aE da ez.dP,ez,bB⟩):p:=h
def alU(h:p:=by exact D9 (i+1) [0,1,2,3,4,5] rfl rfl ⟨bB,U⟩ U kD):p:=h
def alV(h:p:=by exact IT _ (alW r bl (i+1) h)):p:=h
def alX(h:p:=by rwa[show j+(k+1)=j+1+k by omega]):p:=h
def alY(h:p:=by rw[G4,ag];simp[ek.VY]):p:=h
def alZ(h:p:=by rw[mq];exact o.yS):p:=h
def al0(h:p:=by rw[gf,aN];rfl):p:=h
def al1(h:p:=by rw[Gt (l:=bI) U];simp):p:=h
def al2(h:p:=by rw[Gt (l:=b2) U];simp):p:=h
def ab8(h:p:=by exact⟨bf.dE,wv,l7.refl _⟩):p:=h
def ab9(h:p:=by exact cf _ (dt rfl) ajL):p:=h
def al3(h:p:=by exact vl nu (o:=0) U bo (hq some al4)):p:=h
def aca(h:p:=by simpa using aB):p:=h
def acb(h:p:=by simp[aV.set]):p:=h
def VZ(h:p:=by rwa[<-ao]):p:=h
def al5(h:p:=by rw[<-g.ev aa];exact bE.assign rfl):p:=h
def al6(h:p:=by rw[e2,ai U,ai U]):p:=h
def QJ(h:p:=by rw[ht]):p:=h
def al7(h:p:=by rw[e];exact bx cj oi):p:=h
def acc(h:p:=by rw[ba,ayR];rfl):p:=h
def al8(h:p:=by rw[gf,h];rfl):p:=h
def al9(h:p:=by exact⟨_,_,rfl,.inr ⟨_,rfl,Qi _ _⟩,cW.push _ _,new⟩):p:=h
def ama(h:p:=by exact V0 bh h0 l (.inr rfl) a1 (by rwa[aE])):p:=h
def ayS(h:p:=by exact λv aE=>V1 v (by rwa[amb])):p:=h
def amc(h:p:=by exact vl p7 (o:=0) U bo (hq some vp)):p:=h
def amd(h:p:=by exact absurd (uD ag) (hl i (sD ag).2)):p:=h
def ame(h:p:=by unfold nV;rw[h.fu,h.data]):p:=h
def amf(h:p:=by simp only[wx,de];omega):p:=h
def V2(h:p:=by simp[a7]):p:=h
def amg(h:p:=by rwa[aY.wy w (iC.1 ag)]):p:=h
def amh(h:p:=by rwa[tk vq.1]):p:=h
def ami(h:p:=by rw[IU];omega):p:=h
def amj(h:p:=by rw[gf,I];rfl):p:=h
def amk(h:p:=by intro e;rw[e] at aa;simp at aa):p:=h
def aml(h:p:=by intro e;rw[e] at hb;exact Qe):p:=h
def amm(h:p:=by exact bx (Gu _ _) aF):p:=h
def amn(h:p:=by exact IV (by rw[V3,ff])):p:=h
def amo(h:p:=by cases I:fn.body<;>simp_all):p:=h
def acd(h:p:=by simpa using ar):p:=h
def amp(h:p:=by rw[<-g.ev aa];exact bE.move rfl):p:=h
def amq(h:p:=by rw[aM.len];have:=bA.dst;omega):p:=h
def amr(h:p:=by rw[ME,VG y1];exact aa):p:=h
def ams(h:p:=by exact k.m i b I (o.MF I Vn) (o.MG I Vn)):p:=h
def amt(h:p:=by exact(D7 _ _).trans (VK _ _ bo)):p:=h
def JA(h:p:=by cases aN):p:=h
end Go
namespace Go.AH
structure eY where
 bJ:Nat->Nat
 cap:Nat->Nat
 fO:Nat->Nat
def df:Nat:=2^1024
def nw:Nat:=18446744073709551616
def fJ(ρ:eY)(a:Addr):Addr:={a with block:=ρ.bJ a.block,off:=a.off+ρ.fO a.block}
def jv(ρ:eY)(a:Addr)(c:Nat):Nat:=if c<nw then c else(ρ.cap a.block-a.off)/(c-nw)
def bP(ρ:eY):Value->Value
 | .pointer (some a)=>.pointer (some (fJ ρ a))
 | .slice (some a) l c=>.slice (some (fJ ρ a)) l (jv ρ a c)
 | .map (some r)=>.map (some (ρ.bJ r))
 | .chan (some r)=>.chan (some (ρ.bJ r))
 | .func fn f c=>.func fn (f.attach.map λ⟨v,_⟩=>bP ρ v) (c.attach.map λ⟨v,_⟩=>bP ρ v)
 | .iface t v=>.iface t (bP ρ v)
 | .agg cs=>.agg (cs.attach.map λ⟨v,_⟩=>bP ρ v)
 | .tuple cs=>.tuple (cs.attach.map λ⟨v,_⟩=>bP ρ v)
 | v=>v
section
variable(ρ:eY)
@[simp] theorem QK cs:bP ρ (.agg cs)=.agg (cs.map (bP ρ)):=by rw[bP];simp
@[simp] theorem MH cs:bP ρ (.tuple cs)=.tuple (cs.map (bP ρ)):=by rw[bP];simp
@[simp] theorem MI fn f c:bP ρ (.func fn f c)=.func fn (f.map (bP ρ)) (c.map (bP ρ)):=by rw[bP];simp
@[simp] theorem aQN t v:bP ρ (.iface t v)=.iface t (bP ρ v):=by rw[bP]
@[simp] theorem amu b:bP ρ (.bool b)=.bool b:=B8
@[simp] theorem Eb k n:bP ρ (.int k n)=.int k n:=B8
@[simp] theorem aQO k n:bP ρ (.float k n)=.float k n:=B8
@[simp] theorem aQP k n m:bP ρ (.complex k n m)=.complex k n m:=B8
@[simp] theorem amv s:bP ρ (.string s)=.string s:=B8
@[simp] theorem aQQ:bP ρ .nilFunc=.nilFunc:=B8
@[simp] theorem aQR:bP ρ .nilIface=.nilIface:=B8
@[simp] theorem ayT:bP ρ (.pointer none)=.pointer none:=B8
@[simp] theorem Ec a:bP ρ (.pointer (some a))=.pointer (some (fJ ρ a)):=by rw[bP]
@[simp] theorem V4 l c:bP ρ (.slice none l c)=.slice none l c:=B8
@[simp] theorem qJ a l c:bP ρ (.slice (some a) l c)=.slice (some (fJ ρ a)) l (jv ρ a c):=by rw[bP]
@[simp] theorem aQS:bP ρ (.map none)=.map none:=B8
@[simp] theorem ace r:bP ρ (.map (some r))=.map (some (ρ.bJ r)):=by rw[bP]
@[simp] theorem acf:bP ρ undef=undef:=by unfold undef;simp
end
def bw(n:Nat):Value->Prop
 | .pointer (some a)=>a.block<n
 | .slice (some a) _ _=>a.block<n
 | .map (some r)=>r<n
 | .chan (some r)=>r<n
 | .func _ f c=>(∀v,(h:v∈f)->bw n v)/\(∀v,(h:v∈c)->bw n v)
 | .iface _ v=>bw n v
 | .agg cs=>∀v,(h:v∈cs)->bw n v
 | .tuple cs=>∀v,(h:v∈cs)->bw n v
 | _=>True
section
variable(n:Nat)
@[simp] theorem qK cs:bw n (.agg cs)↔∀v∈cs,bw n v:=Jv
@[simp] theorem y2 cs:bw n (.tuple cs)↔∀v∈cs,bw n v:=Jv
@[simp] theorem JB fn f c:bw n (.func fn f c)↔(∀v∈f,bw n v)/\(∀v∈c,bw n v):=Jv
@[simp] theorem V5 t v:bw n (.iface t v)↔bw n v:=Jv
@[simp] theorem aQT b:bw n (.bool b):=B9
@[simp] theorem acg k i:bw n (.int k i):=B9
@[simp] theorem aQU k i:bw n (.float k i):=B9
@[simp] theorem aQV k i j:bw n (.complex k i j):=B9
@[simp] theorem aQW s:bw n (.string s):=B9
@[simp] theorem aQX:bw n .nilFunc:=B9
@[simp] theorem aQY:bw n .nilIface:=B9
@[simp] theorem aQZ:bw n (.pointer none):=B9
@[simp] theorem Ed a:bw n (.pointer (some a))↔a.block<n:=Jv
@[simp] theorem amw l c:bw n (.slice none l c):=B9
@[simp] theorem vr a l c:bw n (.slice (some a) l c)↔a.block<n:=Jv
@[simp] theorem aQ0:bw n (.map none):=B9
@[simp] theorem amx r:bw n (.map (some r))↔r<n:=Jv
@[simp] theorem aQ1:bw n undef:=by unfold undef;simp
end
def xI(n:Nat)(ρ ρ':eY):Prop:=∀i,i<n->ρ'.bJ i=ρ.bJ i/\ρ'.cap i=ρ.cap i/\ρ'.fO i=ρ.fO i
def vn{n ρ ρ'}(h:xI n ρ ρ'):∀v,bw n v->bP ρ' v=bP ρ v:=by
 intro v;induction v using bP.induct with
 | case1 a=>intro I;simp at I;simp[fJ,(h _ I).1,(h _ I).2.2]
 | case2 a l c=>intro I;simp at I;simp[fJ,jv,(h _ I).1,(h _ I).2.1,(h _ I).2.2]
 | case3 r=>intro I;simp at I;simp[(h _ I).1]
 | case4 r=>intro I;rw[bw] at I;rw[bP,bP,(h _ I).1]
 | case5 fn f c yM wo =>
  intro I;simp only[JB] at I;simp only[MI];congr 1
  .exact U7
  .exact U6
 | case6 t v aP=>intro I;simp only[V5] at I;simp[aP I]
 | case7 cs aP=>intro I;simp only[qK] at I;simp only[QK];congr 1;exact GK
 | case8 cs aP=>intro I;simp only[y2] at I;simp only[MH];congr 1;exact GK
 | case9 v=>intro _;rw[bP,bP]<;>simp_all
def hc{n m}(g:n<=m):∀v,bw n v->bw m v:=by
 intro v;induction v using bw.induct with
 | case1 a=>simp;omega
 | case2 a l c=>simp;omega
 | case3 r=>simp;omega
 | case4 r=>intro h;rw[bw] at h|-;omega
 | case5 fn f c d e=>simp only[JB];exact λh=>⟨λv aE=>d v aE (h.1 v aE),λv aE=>e v aE (h.2 v aE)⟩
 | case6 t v b=>simpa using b
 | case7 cs b=>simp only[qK];exact λh v aE=>b v aE (h v aE)
 | case8 cs b=>simp only[y2];exact λh v aE=>b v aE (h v aE)
 | case9 v=>intro _;rw[bw]<;>simp_all
def rE ρ v(h:bw 0 v):bP ρ v=v:=by
 have:∀v,bw 0 v->bP ρ v=v:=by
  intro v;induction v using bP.induct with
  | case1 a=>simp
  | case2 a l c=>simp
  | case3 r=>simp
  | case4 r=>intro h;rw[bw] at h;omega
  | case5 fn f c yM wo =>
   intro I;simp only[JB] at I;simp only[MI];congr 1
   .conv=>rhs;rw[<-we f]
    exact U7
   .conv=>rhs;rw[<-we c]
    exact U6
  | case6 t v aP=>intro I;simp only[V5] at I;simp[aP I]
  | case7 cs aP =>
   intro I;simp only[qK] at I;simp only[QK];congr 1;conv=>rhs;rw[<-we cs]
   exact GK
  | case8 cs aP =>
   intro I;simp only[y2] at I;simp only[MH];congr 1;conv=>rhs;rw[<-we cs]
   exact GK
  | case9 v=>intro _;rw[bP]<;>simp_all
 exact this v h
structure cd where
 cells:Array Value
 elem:TypeId
structure aV where
 m:Nat->Option cd
 n:Nat
def mapM:Nat:=1000000
def Cl:List Nat->Nat
 | []=>0
 | a::l=>2^a*(2*Cl l+1)
def ayU{a b x y}(h:2^a*(2*x+1)=2^b*(2*y+1)):a=b/\x=y:=by
 induction a generalizing b with
 | zero =>
  cases b with
  | zero=>simp at h;exact⟨rfl,U⟩
  | succ b =>
   rw[Uf, Nat.pow_zero] at h; have : 2^b*2*(2*y + 1) = 2*(2^b*(2*y + 1)) := by rw[IW (2^b), PN]
   rw[this] at h;omega
 | succ a aP =>
  cases b with
  | zero =>
   rw[Uf, Nat.pow_zero] at h; have : 2^a*2*(2*x + 1) = 2*(2^a*(2*x + 1)) := by rw[IW (2^a), PN]
   rw[this] at h;omega
  | succ b =>
   rw[(by rw[Uf,IW (2^a),PN]:2^(a+1)*(2*x+1)=2*(2^a*(2*x+1))),(by rw[Uf,IW (2^b),PN]:2^(b+1)*(2*y+1)=2*(2^b*(2*y+1)))] at h;have:=aP (b:=b) U;exact⟨U,this.2⟩
def amy a l:0<Cl (a::l):=aaE (Nat.two_pow_pos a) U
def ach:∀{l m:List Nat},Cl l=Cl m->l=m
 | [],[],_=>rfl
 | [],a::m,h=>by have:=amy a m;rw[<-h] at this;exact absurd this (by simp[Cl])
 | a::l,[],h=>by have:=amy a l;rw[h] at this;exact absurd this (by simp[Cl])
 | a::l,b::m,h=>by
  have⟨J,c⟩:=ayU (show 2^a*(2*Cl l+1)=2^b*(2*Cl m+1) from h);rw[J,ach c]
def MB:Int->Nat
 | .ofNat n=>2*n
 | .negSucc n=>2*n+1
def ayV:∀{a b:Int},MB a=MB b->a=b
 | .ofNat a,.ofNat b,h=>alK
 | .ofNat a,.negSucc b,h=>by simp only[MB] at h;omega
 | .negSucc a,.ofNat b,h=>by simp only[MB] at h;omega
 | .negSucc a,.negSucc b,h=>alK
def map_inj{α β:Type}{f:α->β}(c:∀{a b},f a=f b->a=b):∀{l m:List α},l.map f=m.map f->l=m
 | [],[],_=>rfl
 | [],_::_,h=>p2
 | _::_,[],h=>p2
 | a::l,b::m,h=>by
  simp only[gg,IX] at h;rw[c h.1,map_inj c h.2]
structure gm where
 s:Nat
 hE:Nat
 eN:List (Nat×List Int)
def gm.code(m:gm):List Nat:=m.s::m.hE::m.eN.map λr=>Cl (r.1::r.2.map MB)
def iv(m:gm):Nat:=mapM+Cl m.code
def ayW{m m'}(h:iv m=iv m'):m=m':=by
 have J:=ach (Nat.add_left_cancel h);have⟨s,c,l⟩:=m;have⟨s',ea,cp⟩:=m';simp only[gm.code,IX] at J;obtain⟨rfl,rfl,ab⟩:=J;congr 1;refine map_inj (λ{a b} h=>?_) ab;have aK:=ach h;simp only[IX] at aK;have⟨ch,a2⟩:=a;have⟨b1,hf⟩:=b;simp only at aK;rw[aK.1,map_inj ayV aK.2]
def JC m:mapM<=iv m:=DR _ _
def y3(s:Nat)(r:List Int):Value×Value:=match s with
 | 0=>(.int .i64 (r.headD 0),.agg ⟨r.tail.map (.int .i64)⟩)
 | 1=>(.string ⟨⟨(r.tail.map λn=>UInt8.ofNat n.toNat)⟩⟩,.int .i64 (r.headD 0))
 | _=>(.int .u64 (r.headD 0),.agg ⟨r.tail.map (.int .u64)⟩)
def amz s r:bw 0 (y3 s r).1/\bw 0 (y3 s r).2:=by
 have a:∀k:IntKind,∀v∈(r.tail.map (Value.int k)).toArray,bw 0 v:=by
  intro k v aE;obtain⟨n,_,rfl⟩:=ih.1 (lL:v∈r.tail.map (Value.int k));simp
 unfold y3;split
 .exact⟨aF,by rw[qK];exact a _⟩
 .exact aF
 .exact⟨aF,by rw[qK];exact a _⟩
def sE(s:Nat)(r:Nat×List Int):MapEntry:={key:=(y3 s r.2).1,val:=(y3 s r.2).2,born:=r.1}
def gm.es(m:gm):Array MapEntry:=⟨m.eN.map (sE m.s)⟩
def ayX(ρ:eY)(i:Nat)(b:cd)(o:Option Obj):Prop :=
 ∃(pre tail:Array Value) (dU:Nat×Nat),o=some (.cells (pre++b.cells.map (bP ρ)++tail) b.elem dU)/\pre.size=ρ.fO i/\(df<=i->pre=#[]/\b.cells.size+tail.size=ρ.cap i/\(∀k,k<ρ.cap i->¬(dU.1<=k/\k<dU.2))/\(∀v∈tail,bw 0 v)/\b.elem<mapM)
def ayY(ρ:eY)(i:Nat)(b:cd)(o:Option Obj):Prop :=
 ∃m:gm,o=some (.map m.es m.hE)/\b.cells=#[]/\b.elem=iv m/\ρ.fO i=0
def nW(ρ:eY)(i:Nat)(b:cd)(o:Option Obj):Prop:=ayX ρ i b o\/ayY ρ i b o
structure db(G:Nat)(h:aV)(ρ:eY)(W:World):Prop where
 fa:∀i b,h.m i=some b->nW ρ i b W.heap[ρ.bJ i]?
 lt:∀i b,h.m i=some b->i<h.n
 inj:∀i j b c,df<=i->h.m i=some b->h.m j=some c->ρ.bJ i=ρ.bJ j->i=j
 dP:∀i b,h.m i=some b->∀v∈b.cells,bw h.n v
 fu:∀g,g<G->ρ.bJ g=g/\ρ.fO g=0
 kk:df<=h.n
 nx:G<=df
def db.kF{G h ρ W}(aH:db G h ρ W):G<=h.n:=bx aH.nx aH.kk
def nW.amA{ρ i b o}(h:nW ρ i b o)(ag:df<=i)(c:0<b.cells.size\/b.elem<mapM):
 ∃(a:Array Value) (d:Nat×Nat),o=some (.cells (b.cells.map (bP ρ)++a) b.elem d)/\b.cells.size+a.size=ρ.cap i/\(∀k,k<ρ.cap i->¬(d.1<=k/\k<d.2))/\(∀v∈a,bw 0 v)/\ρ.fO i=0/\b.elem<mapM:=by
 rcases h with⟨pre,a,d,he,aC,hw⟩|⟨m,he,J,e,_⟩
 .have⟨J,e,j,g,f⟩:=hw ag;subst J;exact⟨a,d,D1,e,j,g,by simpa using aC.symm,f⟩
 .exfalso;rcases c with c|c
  .rw[J] at c;simp at c
  .rw[e] at c;exact um.2 (JC m) c
def nW.fC{ρ i b o}(h:nW ρ i b o)(ag:df<=i)(e:0<b.cells.size\/b.elem<mapM):
 ∃(tail:Array Value) (a:Nat×Nat),o=some (.cells (b.cells.map (bP ρ)++tail) b.elem a)/\b.cells.size+tail.size=ρ.cap i/\(∀k,k<ρ.cap i->¬(a.1<=k/\k<a.2))/\(∀v∈tail,bw 0 v)/\ρ.fO i=0:=by
 have⟨tail,a,J,f,g,d,c,_⟩:=h.amA ag e;exact⟨tail,a,J,f,g,d,c⟩
def nW.aci{ρ i b o}(h:nW ρ i b o)(ag:df<=i):ρ.fO i=0:=by
 rcases h with⟨pre,tail,dU,he,aC,hw⟩|⟨m,he,J,ab,aK⟩
 .have⟨J,_⟩:=hw ag;subst J;simpa using aC.symm
 .exact aK
def nW.acj{ρ i b o}(h:nW ρ i b o)(ag:df<=i):b.cells.size<=ρ.cap i:=by
 rcases h with⟨pre,tail,dU,he,aC,hw⟩|⟨m,he,J,ab,_⟩
 .have⟨_,ab,_⟩:=hw ag;omega
 .rw[J];simp
def nW.map{ρ i m cs o}(h:nW ρ i ⟨cs,iv m⟩ o)(ag:df<=i):
 o=some (.map m.es m.hE)/\cs=#[]/\ρ.fO i=0:=by
 rcases h with⟨pre,d,f,he,aC,hw⟩|⟨m',he,J,ab,aK⟩
 .have⟨_,_,_,_,e⟩:=hw ag;exact absurd e (um.2 (JC m))
 .obtain rfl:=ayW ab;exact⟨he,J,aK⟩
def nW.mk{ρ i}{b:cd}{o}tail a(he:o=some (.cells (b.cells.map (bP ρ)++tail) b.elem a))(aB:b.cells.size+tail.size=ρ.cap i)(c:∀k,k<ρ.cap i->¬(a.1<=k/\k<a.2))(aS:∀v∈tail,bw 0 v)(aC:ρ.fO i=0)(hm:b.elem<mapM):nW ρ i b o :=
 .inl ⟨#[],tail,a,D1,by simpa using aC.symm,λ_=>⟨rfl,aB,c,aS,hm⟩⟩
def nW.conv{ρ ρ' i j b b' o sF}(h:nW ρ i b o)(aH:sF=o)(he:b'.elem=b.elem)(aB:b'.cells.map (bP ρ')=b.cells.map (bP ρ))(kH:df<=j->ρ'.cap j=ρ.cap i)(uE:ρ'.fO j=ρ.fO i)(hw:df<=j->df<=i):nW ρ' j b' sF:=by
 subst aH;have ej:b'.cells.size=b.cells.size:=by have:=hq Array.size aB;simpa using this
 rcases h with⟨pre,tail,dU,J,ab,aK⟩|⟨m,J,ab,aK,gx⟩
 .refine .inl ⟨pre,tail,dU,by rwa[aB,he],by rwa[uE],λaA=>?_⟩;have⟨g1,g2,g3,g4,g5⟩:=aK (hw aA);exact⟨g1,by rwa[kH aA,ej],by rwa[kH aA],g4,by rwa[he]⟩
 .refine .inr ⟨m,J,?_,by rwa[he],by rwa[uE]⟩;exact Ug (by rw[ej,ab];rfl)
def ayZ(o sF:Option Obj)(n:Nat):Prop:=∃(c ea:Array Value) (t:TypeId) (dU:Nat×Nat),o=some (.cells c t dU)/\sF=some (.cells ea t dU)/\ea.size=c.size/\∀k,n<=k->ea[k]?=c[k]?
def ay0(o sF:Option Obj):Prop:=∃es JD hE ay1,o=some (.map es hE)/\sF=some (.map JD ay1)
def Alike(o sF:Option Obj)(n:Nat):Prop:=sF=o\/ayZ o sF n\/ay0 o sF
def Alike.refl o n:Alike o o n:=.inl rfl
def Alike.trans{o r v n m}(I:n<=m)(a:Alike o r n)(b:Alike r v m):Alike o v m:=by
 rcases a with rfl|⟨c,E,t,x,J,f,z,y⟩|⟨w,H,cl,cl',J,f⟩
 .exact b
 .rcases b with rfl|⟨d,d1,D,q,e,g,u,s⟩|⟨B,j,l,i,e,g⟩
  .exact .inr (.inl ⟨c,E,t,x,J,f,z,λk aj=>y k U⟩)
  .rw[f] at e;injection e with e;injection e with C F A;subst C;subst F;subst A;exact .inr (.inl ⟨c,d1,t,x,J,g,u.trans z,λk aj=>(s k aj).trans (y k U)⟩)
  .rw[f] at e;cases e
 .rcases b with rfl|⟨d,d1,D,q,e,g,u,s⟩|⟨B,j,l,i,e,g⟩
  .exact .inr (.inr ⟨w,H,cl,cl',J,f⟩)
  .rw[f] at e;cases e
  .exact .inr (.inr ⟨w,j,cl,i,J,g⟩)
structure Ext(h aw:aV)(ρ ρ':eY)(W W':World):Prop where
 hU:xI h.n ρ ρ'
 mono:h.n<=aw.n
 l8:∀c,c<W.heap.size->(∀i b,df<=i->h.m i=some b->ρ.bJ i≠c)->W'.heap[c]?=W.heap[c]?
 size:W.heap.size<=W'.heap.size
 fC:∀i b,df<=i->aw.m i=some b->ρ'.bJ i<W.heap.size->∃k c,df<=k/\h.m k=some c/\ρ.bJ k=ρ'.bJ i
 tape:W'.tape=W.tape
 os:W'.os=W.os
 output:W'.output=W.output
 pq:∀i b',i<h.n->aw.m i=some b'->∃b,h.m i=some b/\b.cells.size<=b'.cells.size/\Alike W.heap[ρ.bJ i]? W'.heap[ρ.bJ i]? b'.cells.size
def Ext.refl h ρ W:Ext h h ρ ρ W W :=
 ⟨λ_ _=>⟨rfl,rfl,rfl⟩,b4 _,λ_ _ _=>rfl,b4 _,λi b ag I _=>⟨i,b,ag,I,rfl⟩,rfl,rfl,rfl,λ_ b _ I=>⟨b,I,b4 _,.refl _ _⟩⟩
def Ext.trans{h J ab:aV}{ρ t s:eY}{W q u:World}(e:Ext h J ρ t W q)(a:Ext J ab t s q u):Ext h ab ρ s W u where
 hU i ag:=by
  have J:=e.hU i ag;have ab:=a.hU i (eQ ag e.mono);exact alf
 mono:=bx e.mono a.mono
 l8 c aB ak:=by
  rw[<-e.l8 c aB ak];refine a.l8 c (eQ aB e.size) λi b ag I he=>?_;have⟨k,d,g,aj,f⟩:=e.fC i b ag I (by rw[he];exact aB);exact ak k d g aj (by rw[f,he])
 size:=bx e.size a.size
 fC i b ag I f:=by
  have⟨k,d,g,aj,r⟩:=a.fC i b ag I (eQ f e.size);have⟨k',A,m,v,l⟩:=e.fC k d g aj (by rw[r];exact f);exact⟨k',A,m,v,by rw[l,r]⟩
 tape:=a.tape.trans e.tape
 os:=a.os.trans e.os
 output:=a.output.trans e.output
 pq i b' ag y:=by
  have⟨b1,g1,g2,g3⟩:=a.pq i b' (eQ ag e.mono) y;have⟨b,z,x,w⟩:=e.pq i b1 ag g1;rw[(e.hU i ag).1] at g3;exact⟨b,z,bx x g2,w.trans g2 g3⟩
def nW.lt{ρ i b}{W:World}(h:nW ρ i b W.heap[ρ.bJ i]?):ρ.bJ i<W.heap.size:=by
 rcases h with⟨_,_,_,he,_⟩|⟨_,he,_⟩
 .exact(Ar.1 he).1
 .exact(Ar.1 he).1
def nW.hU{n ρ ρ'}(d:xI n ρ ρ'){i}(ag:i<n){b}(I:∀v∈b.cells,bw n v){o}(h:nW ρ i b o):nW ρ' i b o :=
 h.conv rfl rfl (j5 λv aE=>vn d v (I v aE)) (λ_=>(d i ag).2.1) (d i ag).2.2 λh=>h
def ack(ρ:eY):Target->Target
 | .fn fn captured=>.fn fn (captured.map (bP ρ))
 | t=>t
def G5(ρ:eY)(d:Deferred):Deferred:={target:=ack ρ d.target,args:=d.args.map (bP ρ)}
def JE(n:Nat)(d:Deferred):Prop:=(match d.target with|.fn _ captured=>∀v∈captured,bw n v|_=>True)/\∀v∈d.args,bw n v
def eU(ρ:eY)(a:Act):Act:={tmps:=a.tmps.map (bP ρ),defers:=a.defers.map (G5 ρ)}
def gI(n:Nat)(a:Act):Prop:=(∀v∈a.tmps,bw n v)/\∀d∈a.defers,JE n d
def acm{n ρ ρ'}(h:xI n ρ ρ'){d}(aq:JE n d):G5 ρ' d=G5 ρ d:=by
 have⟨t,args⟩:=d;simp only[G5,JE] at *;congr 1
 .cases t<;>simp only[ack] at aq|-;congr 1;exact j5 λv aE=>vn h v (aq.1 v aE)
 .exact j5 λv aE=>vn h v (aq.2 v aE)
def acn{n ρ ρ'}(h:xI n ρ ρ'){a}(aJ:gI n a):eU ρ' a=eU ρ a:=by
 unfold eU;congr 1
 .exact j5 λv aE=>vn h v (aJ.1 v aE)
 .exact As λd aq=>acm h (aJ.2 d aq)
def ay5{n m}(mz:n<=m){d}(h:JE n d):JE m d:=by
 have⟨t,args⟩:=d;refine⟨?_,λv aE=>hc mz v (h.2 v aE)⟩;cases t<;>simp only[JE] at h|-;exact λv aE=>hc mz v (h.1 v aE)
def Ee{n m}(mz:n<=m){a}(h:gI n a):gI m a:=⟨λv aE=>hc mz v (h.1 v aE),λd b=>ay5 mz (h.2 d b)⟩
def rF(G:Nat):Operand->Prop
 | .const v=>bw 0 v
 | .global g=>g<G
 | _=>True
def y4{G ρ}(bf:∀g,g<G->ρ.bJ g=g/\ρ.fO g=0)a x(aa:rF G x):(eU ρ a).eval x=bP ρ (a.eval x):=by
 cases x with
 | tmp t=>simp only[Act.eval,eU,wg,IY];cases a.tmps[t]?<;>simp
 | const v=>exact(rE ρ v aa).symm
 | global g=>simp[Act.eval,fJ,(bf g aa).1,(bf g aa).2]
 | func f=>simp[Act.eval]
def AG{G n}(b:G<=n){a}(c:gI n a)x(aa:rF G x):bw n (a.eval x):=by
 cases x with
 | tmp t =>
  simp only[Act.eval,wg];cases h:a.tmps[t]? with
  | none=>simp
  | some v=>exact c.1 v (IZ h)
 | const v=>exact hc (dG _) v aa
 | global g=>simp only[Act.eval,Ed];exact eQ aa b
 | func f=>simp[Act.eval]
def MK ρ a d v:eU ρ (a.put d v)=(eU ρ a).put d (bP ρ v):=by
 cases d with
 | none=>rfl
 | some d=>simp[Act.put,eU]
def qL{n a}(b:gI n a)d{v}(aE:bw n v):gI n (a.put d v):=by
 cases d with
 | none=>exact b
 | some d =>
  refine⟨λu hu=>?_,b.2⟩;rcases aaF hu with h|h
  .exact b.1 u h
  .rwa[h]
def JF(P:Program)(h:aV)(ρ:eY)(W:World)(b6:Act)(aw:aV)(A:Act)(W':World):Prop :=
 ∃ρ',A=eU ρ' b6/\gI aw.n b6/\db P.globals.size aw ρ' W'/\Ext h aw ρ ρ' W W'
def iO(P:Program)(c:Code)(a:Act)(h:aV)(x:Exit)(b6:Act)(aw:aV):Prop :=
 gI h.n a->∀ρ W,db P.globals.size h ρ W->c.wp P (λe A W'=>e=x/\JF P h ρ W b6 aw A W') (eU ρ a) W
def bc(P:Program)(f:FuncId)(args:Array Value)(h:aV)(v:Value)(aw:aV):Prop :=
 (∀x∈args,bw h.n x)->∀ρ W,db P.globals.size h ρ W ->
  Calls P f (args.map (bP ρ)) W λe W'=>∃ρ',e=.returned (bP ρ' v)/\bw aw.n v/\db P.globals.size aw ρ' W'/\Ext h aw ρ ρ' W W'
variable{P:Program}
def JF.here{h ρ W a}(I:gI h.n a)(aH:db P.globals.size h ρ W):JF P h ρ W a h (eU ρ a) W :=
 ⟨ρ,rfl,I,aH,Ext.refl _ _ _⟩
def iO.skip a h:iO P .skip a h .normal a h:=λI _ _ aH=>wp_skip ⟨rfl,JF.here I aH⟩
def iO.exit id a h:iO P (.exit id) a h (.exit id) a h:=λI _ _ aH=>wp_exit ⟨rfl,JF.here I aH⟩
def iO.ret a h:iO P .ret a h .ret a h:=λI _ _ aH=>wp_ret ⟨rfl,JF.here I aH⟩
def iO.seq{x y a d g h J f e}(aa:iO P x a h .normal d J)(m:iO P y d J e g f):iO P (.seq x y) a h e g f:=by
 refine λI ρ W aH=>wp_seq (wp_mono (aa I ρ W aH) ?_);rintro e A W' ⟨rfl,ρ',rfl,j,i,k⟩;refine wp_mono (m j ρ' W' i) ?_;rintro e A l ⟨rfl,r,rfl,c,b,q⟩;exact⟨rfl,r,rfl,c,b,k.trans q⟩
def iO.ayE{x y a b h J e}(aa:iO P x a h e b J)(he:e≠.normal):iO P (.seq x y) a h e b J:=by
 refine λI ρ W aH=>wp_seq (wp_mono (aa I ρ W aH) ?_);rintro e A W' ⟨rfl,bh⟩;cases e<;>first|exact absurd rfl he|exact⟨rfl,bh⟩
def iO.cond{c x y a b6 h aw e}{t:Bool}(b:rF P.globals.size c)(aB:a.eval c=.bool t)(aa:iO P (if t then x else y) a h e b6 aw):
 iO P (.cond c x y) a h e b6 aw:=by
 exact λI ρ W aH=>wp_cond (by rw[y4 aH.fu _ _ b,aB];simp) (aa I ρ W aH)
def V7(id:Nat):Exit->Exit
 | .exit i=>if i=id then .normal else .exit i
 | e=>e
def iO.block{id c a b6 h aw e}(aB:iO P c a h e b6 aw):iO P (.block id c) a h (V7 id e) b6 aw:=by
 refine λI ρ W aH=>wp_block (wp_mono (aB I ρ W aH) ?_);rintro e A W' ⟨rfl,bh⟩;cases e<;>simp only[Exit.inBlock,V7];case exit i=>by_cases ag:i=id<;>simp[ag,bh]
 all_goals exact⟨ew,bh⟩
def sB(P:Program)(n:Nat)(c:Code)(a:Act)(h:aV)(x:Exit)(b6:Act)(aw:aV):Prop :=
 gI h.n a->∀ρ W,db P.globals.size h ρ W->Code.rounds P c (λe A W'=>e=x/\JF P h ρ W b6 aw A W') n (eU ρ a) W
def ay7{c Q d}(g:∀e a w,Q e a w->d e a w):∀(n:Nat) (a:Act) (w:World),Code.rounds P c Q n a w->Code.rounds P c d n a w:=by
 intro n;induction n with
 | zero=>exact λa w h=>h.elim
 | succ n f =>
  intro a w h;rw[rounds_succ] at h|-;refine wp_mono h ?_;intro e a w b;cases e<;>first|exact f _ _ b|exact g _ _ _ b
def sB.out{n c a b6 h aw e}(aB:iO P c a h e b6 aw)(he:e≠.normal):sB P (n+1) c a h e b6 aw:=by
 intro I ρ W aH;rw[rounds_succ];refine wp_mono (aB I ρ W aH) ?_;rintro e A W' ⟨rfl,bh⟩;cases e<;>first|exact absurd rfl he|exact⟨rfl,bh⟩
def sB.next{n c a f i h J g e}(aB:iO P c a h .normal f J)(aM:sB P n c f J e i g):sB P (n+1) c a h e i g:=by
 intro I ρ W aH;rw[rounds_succ];refine wp_mono (aB I ρ W aH) ?_;rintro e A W' ⟨rfl,ρ',rfl,k,j,l⟩;refine ay7 ?_ n _ _ (aM k ρ' W' j);rintro e A m ⟨rfl,r,rfl,d,b,q⟩;exact⟨rfl,r,rfl,d,b,l.trans q⟩
def sB.loop{n c a b6 h aw e}(aM:sB P n c a h e b6 aw):iO P (.loop c) a h e b6 aw :=
 λI ρ W aH=>wp_loop_rounds n (aM I ρ W aH)
def bE(P:Program)(o:Oper)(ev:Operand->Value)(h:aV)(v:Value)(aw:aV):Prop :=
 (∀x∈o.op.operands,bw h.n (ev x))->∀ρ W,db P.globals.size h ρ W->∀(A:Act) (K:Act->World->Prop) (Q:Exit->Act->World->Prop),
  (∀x∈o.op.operands,A.eval x=bP ρ (ev x)) ->
  (∀ρ' W',bw aw.n v->db P.globals.size aw ρ' W'->Ext h aw ρ ρ' W W'->K (A.put o.dst (bP ρ' v)) W')->o.wp P A W K Q
def bE.value{o ev h aw v}(c:(∀x∈o.op.operands,bw h.n (ev x))->∀ρ W (a:Operand->Value),db P.globals.size h ρ W->(∀x∈o.op.operands,a x=bP ρ (ev x)) ->
  ∃ρ' W',(execOp a o).run P W=.ok (.value (bP ρ' v)) W'/\bw aw.n v/\db P.globals.size aw ρ' W'/\Ext h aw ρ ρ' W W'):bE P o ev h v aw:=by
 intro I ρ W aH A K Q e d;have⟨ρ',W',aM,aE,b,f⟩:=c I ρ W A.eval aH e;unfold Oper.wp;rw[aM];exact d ρ' W' aE b f
def bE.done{o ev h aw}(c:(∀x∈o.op.operands,bw h.n (ev x))->∀ρ W (a:Operand->Value),db P.globals.size h ρ W->(∀x∈o.op.operands,a x=bP ρ (ev x)) ->
  ∃ρ' W',(execOp a o).run P W=.ok .skip W'/\db P.globals.size aw ρ' W'/\Ext h aw ρ ρ' W W'):bE P o ev h undef aw:=by
 intro I ρ W aH A K Q e d;have⟨ρ',W',aM,b,f⟩:=c I ρ W A.eval aH e;unfold Oper.wp;rw[aM];have:=d ρ' W' aF b f;rw[acf] at this;exact dm
def bE.still{o ev h v}(aE:(∀x∈o.op.operands,bw h.n (ev x))->bw h.n v)(b:∀ρ W (a:Operand->Value),db P.globals.size h ρ W->(∀x∈o.op.operands,a x=bP ρ (ev x))->(execOp a o).run P W=.ok (.value (bP ρ v)) W):bE P o ev h v h :=
 .value λI ρ W a aH he=>⟨ρ,W,b ρ W a aH he,aE I,aH,Ext.refl _ _ _⟩
def aV.set(h:aV)(i:Nat)(b:cd):aV:={h with m:=λj=>if j=i then some b else h.m j}
def aV.push(h:aV)(b:cd):aV:={m:=λj=>if j=h.n then some b else h.m j,n:=h.n+1}
def aV.fB(h:aV)(i:Nat):aV:={h with m:=λj=>if j=i then none else h.m j}
variable{G:Nat}{h:aV}
section
variable{ρ:eY}{W:World}
def db.cell(aH:db G h ρ W){a b v}(I:h.m a.block=some b)(aC:a.spot=none)(aE:b.cells[a.off]?=some v):W.cell? (fJ ρ a)=some (bP ρ v):=by
 have d:=(Ar.1 aE).1;rcases aH.fa _ _ I with⟨pre,c,e,he,bh,_⟩|⟨_,_,h0,_⟩
 case inr=>rw[h0] at d;exact absurd d aF
 simp only[World.cell?,fJ,he,aC];simp only[Uh,nN,jE];rw[Ui jf,aaG U,show a.off+ρ.fO a.block-pre.size=a.off by omega];simp[aE]
def db.km(aH:db G h ρ W){a b}(hw:df<=a.block)(I:h.m a.block=some b)(g:a.off<b.cells.size):W.frozen? (fJ ρ a)=false:=by
 have⟨tail,d,he,aB,f,_,aC⟩:=(aH.fa _ _ I).fC hw (.inl U);have J:W.heap[(fJ ρ a).block]?=some (.cells (b.cells.map (bP ρ)++tail) b.elem d):=he;have:=f a.off U;have⟨e,ag⟩:=d;simp only[World.frozen?,J];simp only at this;cases c:(decide (e<=(fJ ρ a).off)&&decide ((fJ ρ a).off<ag)) with
 | false=>rfl
 | true=>simp only[fJ,aC,nq,cA] at c;exact absurd ⟨xr c.1,xr c.2⟩ this
def db.write(aH:db G h ρ W){a b v}(hw:df<=a.block)(I:h.m a.block=some b)(aC:a.spot=none)(C:a.off<b.cells.size)(aE:bw h.n v):
 db G (h.set a.block {b with cells:=b.cells.setIfInBounds a.off v}) ρ (W.setCell (fJ ρ a) (bP ρ v))/\Ext h (h.set a.block {b with cells:=b.cells.setIfInBounds a.off v}) ρ ρ W (W.setCell (fJ ρ a) (bP ρ v)):=by
 have⟨tail,w,he,aB,E,H,s,z⟩:=(aH.fa _ _ I).amA hw (.inl U);have q:∀c,c≠ρ.bJ a.block->(W.setCell (fJ ρ a) (bP ρ v)).heap[c]?=W.heap[c]?:=by
  intro c D;simp only[World.setCell,fJ,aaH,ai (PO D)]
 have x:(W.setCell (fJ ρ a) (bP ρ v)).heap[ρ.bJ a.block]?=some (.cells ((b.cells.setIfInBounds a.off v).map (bP ρ)++tail) b.elem w):=by
  simp only[World.setCell,fJ,aaH,kB,he,iW,aC,s,nq,Uh,nN,jE];congr 2;rw[Array.setIfInBounds_append_left (by simpa using C),ajr]
 refine⟨⟨λi c ag=>?_,λi c ag=>?_,λi j c d l ag aA F=>?_,λi c ag u hu=>?_,aH.fu,aH.kk,aH.nx⟩,⟨λ_ _=>⟨rfl,rfl,rfl⟩,b4 _,λc t ak=>q c (λe=>ak _ _ hw I e.symm),by simp[World.setCell],λi c l ag _=>?_,rfl,rfl,rfl,λi c K ag=>?_⟩⟩
 .simp only[aV.set] at ag;by_cases f:i=a.block
  .subst f;simp only[kB,dh] at ag;subst ag;exact nW.mk tail w x aca E H s z
  .rw[ai f] at ag;rw[q _ (λe=>f (aH.inj _ _ _ _ hw I ag e.symm).symm)];exact aH.fa i c ag
 .simp only[aV.set] at ag|-;by_cases f:i=a.block
  .subst f;exact aH.lt _ _ I
  .rw[ai f] at ag;exact aH.lt _ _ ag
 .simp only[aV.set] at ag aA;have B:∃g,h.m i=some g:=by
   by_cases f:i=a.block
   .subst f;exact⟨b,I⟩
   .rw[ai f] at ag;exact⟨c,ag⟩
  have A:∃g,h.m j=some g:=by
   by_cases r:j=a.block
   .subst r;exact⟨b,I⟩
   .rw[ai r] at aA;exact⟨d,aA⟩
  have⟨g,t⟩:=B;have⟨L,y⟩:=A;exact aH.inj _ _ _ _ l t y F
 .simp only[aV.set] at ag|-;by_cases f:i=a.block
  .subst f;simp only[kB,dh] at ag;subst ag;rcases aaF hu with J|J
   .exact aH.dP _ _ I u J
   .rwa[J]
  .rw[ai f] at ag;exact aH.dP _ _ ag u hu
 .simp only[aV.set] at ag;by_cases f:i=a.block
  .subst f;exact⟨_,b,hw,I,rfl⟩
  .rw[ai f] at ag;exact⟨i,c,l,ag,rfl⟩
 .simp only[aV.set] at ag;by_cases f:i=a.block
  .subst f;simp only[kB,dh] at ag;subst ag;refine⟨b,I,aF,.inr (.inl ⟨_,_,_,_,he,x,aF,λk aj=>?_⟩)⟩;simp only[Array.size_setIfInBounds] at aj;rw[aaG Qw,aaG Qw];simp
  .rw[ai f] at ag;rw[q _ (λe=>f (aH.inj _ _ _ _ hw I ag e.symm).symm)];exact abW
def eY.add(ρ:eY)(i l c:Nat):eY:={bJ:=λj=>if j=i then l else ρ.bJ j,cap:=λj=>if j=i then c else ρ.cap j,fO:=λj=>if j=i then 0 else ρ.fO j}
def eY.AJ ρ n l c:xI n ρ (ρ.add n l c):=by
 intro i ag;have:i≠n:=U;simp[eY.add,this]
def db.new(aH:db G h ρ W){b:cd}(t:b.elem<mapM)(aE:∀v∈b.cells,bw (h.n+1) v)tail(A:∀v∈tail,bw 0 v) e(s:∀k,k<b.cells.size+tail.size->¬(e.1<=k/\k<e.2)) W'(l:W'.heap=W.heap.push (.cells (b.cells.map (bP (ρ.add h.n W.heap.size (b.cells.size+tail.size)))++tail) b.elem e))(J:W'.tape=W.tape)(y:W'.os=W.os)(z:W'.output=W.output):
 db G (h.push b) (ρ.add h.n W.heap.size (b.cells.size+tail.size)) W'/\Ext h (h.push b) ρ (ρ.add h.n W.heap.size (b.cells.size+tail.size)) W W':=by
 have eS:=ρ.AJ h.n W.heap.size (b.cells.size+tail.size);have q:∀c,c<W.heap.size->W'.heap[c]?=W.heap[c]?:=by
  intro c aB;rw[l,ajs,ai U]
 have x:W'.heap[W.heap.size]?=some (.cells (b.cells.map (bP (ρ.add h.n W.heap.size (b.cells.size+tail.size)))++tail) b.elem e):=by
  rw[l];simp
 refine⟨⟨λi c ag=>?_,λi c ag=>?_,λi j c d m ag aA a=>?_,λi c ag u hu=>?_,λg bf=>aa3,by simp only[aV.push];have:=aH.kk;omega,aH.nx⟩,⟨eS,Ca,λc w _=>q c w,by rw[l];simp,λi c m ag a=>?_,J,y,z,λi c B ag=>?_⟩⟩
 .simp only[aV.push] at ag;by_cases fh:i=h.n
  .subst fh;simp only[kB,dh] at ag;subst ag;refine nW.mk tail e ?_ Jo (by simpa[eY.add] using s) A Jo t;rw[show(ρ.add h.n W.heap.size (b.cells.size+tail.size)).bJ h.n=W.heap.size by simp[eY.add]];exact x
  .rw[ai fh] at ag;have r:=aH.lt _ _ ag;have C:=(aH.fa i c ag).hU eS r (aH.dP _ _ ag);rwa[(eS i r).1,q _ (aH.fa i c ag).lt]
 .simp only[aV.push] at ag|-;by_cases fh:i=h.n
  .exact U
  .rw[ai fh] at ag;have:=aH.lt _ _ ag;omega
 .simp only[aV.push] at ag aA;by_cases fh:i=h.n<;>by_cases f:j=h.n
  .exact U
  .rw[ai f] at aA;rw[fh,(eS j (aH.lt _ _ aA)).1] at a;simp only[eY.add,kB] at a;have:=(aH.fa _ _ aA).lt;omega
  .rw[ai fh] at ag;rw[f,(eS i (aH.lt _ _ ag)).1] at a;simp only[eY.add,kB] at a;have:=(aH.fa _ _ ag).lt;omega
  .rw[ai fh] at ag;rw[ai f] at aA;rw[(eS i (aH.lt _ _ ag)).1,(eS j (aH.lt _ _ aA)).1] at a;exact aH.inj _ _ _ _ m ag aA a
 .simp only[aV.push] at ag|-;by_cases fh:i=h.n
  .subst fh;simp only[kB,dh] at ag;subst ag;exact aE u hu
  .exact akt
 .simp only[aV.push] at ag;by_cases fh:i=h.n
  .subst fh;simp[eY.add] at a
  .rw[ai fh] at ag;exact⟨i,c,m,ag,((eS i (aH.lt _ _ ag)).1).symm⟩
 .simp only[aV.push] at ag;rw[ai U] at ag;rw[q _ (aH.fa i c ag).lt];exact abW
def db.ik(aH:db G h ρ W){i b}(hw:df<=i)(I:h.m i=some b)(A:b.elem<mapM){k}(aj:b.cells.size+k<=ρ.cap i):
 ∃ik:Array Value,ik.size=k/\(∀v∈ik,bw 0 v)/\db G (h.set i {b with cells:=b.cells++ik}) ρ W/\Ext h (h.set i {b with cells:=b.cells++ik}) ρ ρ W W:=by
 have⟨tail,E,he,aB,F,B,C⟩:=(aH.fa _ _ I).fC hw (.inr A);have s:∀v∈tail.extract 0 k,bw 0 v:=by
  intro v aE;have⟨m,_,e⟩:=aaI.1 aE;rw[<-e];exact B _ (Uj _)
 have D:(tail.extract 0 k).size=k:=jf;refine⟨tail.extract 0 k,D,s,⟨λj c aA=>?_,λj c aA=>?_,λj l c d w aA y he=>?_,λj c aA u hu=>?_,aH.fu,aH.kk,aH.nx⟩,⟨λ_ _=>⟨rfl,rfl,rfl⟩,b4 _,λ_ _ _=>rfl,b4 _,λj c w aA _=>?_,rfl,rfl,rfl,λj c H aA=>?_⟩⟩
 .simp only[aV.set] at aA;by_cases q:j=i
  .subst q;simp only[kB,dh] at aA;subst aA;refine nW.mk (tail.extract k tail.size) E ?_ jf F (λv aE=>?_) C A
   .rw[he];congr 2;rw[Uk,Array.append_assoc];congr 1;rw[j5 (g:=id) λv aE=>rE ρ v (s v aE)];rw[we,aaJ];rw[aaK U,I0 U];simp
   .have⟨m,_,e⟩:=aaI.1 aE;rw[<-e];exact B _ (Uj _)
  .rw[ai q] at aA;exact aH.fa j c aA
 .simp only[aV.set] at aA|-;by_cases q:j=i
  .subst q;exact aH.lt _ _ I
  .rw[ai q] at aA;exact aH.lt _ _ aA
 .simp only[aV.set] at aA y;have J:∃x,h.m j=some x:=by
   by_cases q:j=i
   .subst q;exact⟨b,I⟩
   .rw[ai q] at aA;exact⟨c,aA⟩
  have z:∃x,h.m l=some x:=by
   by_cases q:l=i
   .subst q;exact⟨b,I⟩
   .rw[ai q] at y;exact⟨d,y⟩
  have⟨_,J⟩:=J;have⟨_,z⟩:=z;exact aH.inj _ _ _ _ w J z he
 .simp only[aV.set] at aA|-;by_cases q:j=i
  .subst q;simp only[kB,dh] at aA;subst aA;rcases I1.1 hu with J|J
   .exact aH.dP _ _ I u J
   .exact hc (dG _) u (s u J)
  .rw[ai q] at aA;exact aH.dP _ _ aA u hu
 .simp only[aV.set] at aA;by_cases q:j=i
  .subst q;exact⟨_,b,hw,I,rfl⟩
  .rw[ai q] at aA;exact⟨j,c,w,aA,rfl⟩
 .simp only[aV.set] at aA;by_cases q:j=i
  .subst q;simp only[kB,dh] at aA;subst aA;exact⟨b,I,aF,.refl _ _⟩
  .rw[ai q] at aA;exact abV
def db.rename(aH:db G h ρ W){i b}(hw:df<=i)(I:h.m i=some b):
 db G ((h.fB i).push b) (ρ.add h.n (ρ.bJ i) (ρ.cap i)) W/\Ext h ((h.fB i).push b) ρ (ρ.add h.n (ρ.bJ i) (ρ.cap i)) W W:=by
 have eS:=ρ.AJ h.n (ρ.bJ i) (ρ.cap i);have k:∀j c,((h.fB i).push b).m j=some c->(j=h.n/\c=b)\/(j≠h.n/\j≠i/\h.m j=some c):=by
  intro j c aA;change(if j=h.n then some b else if j=i then none else h.m j)=some c at aA;by_cases q:j=h.n
  .rw[au q] at aA;injection aA with aA;exact .inl ⟨q,aA.symm⟩
  .rw[ai q] at aA;by_cases s:j=i
   .rw[au s] at aA;cases aA
   .rw[ai s] at aA;exact .inr ⟨q,s,aA⟩
 have w:(ρ.add h.n (ρ.bJ i) (ρ.cap i)).bJ h.n=ρ.bJ i/\(ρ.add h.n (ρ.bJ i) (ρ.cap i)).cap h.n=ρ.cap i/\(ρ.add h.n (ρ.bJ i) (ρ.cap i)).fO h.n=0:=Jo;refine⟨⟨λj c aA=>?_,λj c aA=>?_,λj l c d y aA z he=>?_,λj c aA u hu=>?_,λg bf=>aa3,by have:=aH.kk;simp[aV.push,aV.fB];omega,aH.nx⟩,⟨eS,VD,λ_ _ _=>rfl,b4 _,λj c y aA _=>?_,rfl,rfl,rfl,λj c q aA=>?_⟩⟩
 .rcases k j c aA with⟨rfl,rfl⟩|⟨q,s,e⟩
  .refine(aH.fa _ _ I).conv (by rw[w.1]) rfl (j5 λv aE=>vn eS v (aH.dP _ _ I v aE)) (λ_=>w.2.1) ?_ λ_=>hw;rw[w.2.2,(aH.fa _ _ I).aci hw]
  .rw[(eS j (aH.lt _ _ e)).1];exact(aH.fa _ _ e).hU eS (aH.lt _ _ e) (aH.dP _ _ e)
 .rcases k j c aA with⟨rfl,rfl⟩|⟨q,s,e⟩
  .exact VD
  .have:=aH.lt _ _ e;simp[aV.push,aV.fB];omega
 .rcases k j c aA with⟨rfl,rfl⟩|⟨q,s,e⟩<;>rcases k l d z with⟨rfl,rfl⟩|⟨B,A,x⟩
  .rfl
  .rw[w.1,(eS l (aH.lt _ _ x)).1] at he;exact absurd (aH.inj _ _ _ _ hw I x he).symm A
  .rw[w.1,(eS j (aH.lt _ _ e)).1] at he;exact absurd (aH.inj _ _ _ _ hw I e he.symm).symm s
  .rw[(eS j (aH.lt _ _ e)).1,(eS l (aH.lt _ _ x)).1] at he;exact aH.inj _ _ _ _ y e x he
 .rw[(rfl:((h.fB i).push b).n=h.n+1)];rcases k j c aA with⟨rfl,rfl⟩|⟨q,s,e⟩
  .exact hc (hr _) u (aH.dP _ _ I u hu)
  .exact hc (hr _) u (aH.dP _ _ e u hu)
 .rcases k j c aA with⟨rfl,rfl⟩|⟨q,s,e⟩
  .exact⟨i,c,hw,I,w.1.symm⟩
  .exact⟨j,c,y,e,((eS j (aH.lt _ _ e)).1).symm⟩
 .rcases k j c aA with⟨rfl,rfl⟩|⟨_,s,e⟩
  .exact U
  .exact⟨c,e,b4 _,.refl _ _⟩
end
section
variable{o:Oper}{ev:Operand->Value}
def QO:TypeDesc->Bool
 | .struct _|.array _ _=>true
 | _=>false
def kT{t d}(a:P.underlying t=some d)W:(underlying t).run P W=.ok d W:=run_underlying a W
def V9{t i}(ag:P.info? t=some i)W:(typeInfo t).run P W=.ok i W:=by simp[typeInfo,ag]
def sJ{t i}(ag:P.info? t=some i)W:(sizeOf t).run P W=.ok i.size W:=by simp[sizeOf,V9 ag]
def QP{t i z}(ag:P.info? t=some i)(a:i.zero=some z)W:(zeroValue t).run P W=.ok z W:=by simp[zeroValue,V9 ag,a]
def QQ{t d}(a:P.underlying t=some d)W:(isAgg t).run P W=.ok (QO d) W:=by
 unfold isAgg;rw[gG,kT a];cases d<;>rfl
def Cm ρ a n:(fJ ρ a).add n=fJ ρ (a.add n):=by
 unfold Addr.add fJ;by_cases ak:n=0
 .simp[ak]
 .simp[ak,Nat.add_right_comm]
def xK(a:Addr)n:(a.add n).block=a.block:=by unfold Addr.add;split<;>rfl
def bE.move{x}(aH:o.op=.move x):bE P o ev h (ev x) h :=
 .still (λI=>I x ij) λρ W a _ he=>by simp[execOp,aH,he x ij]
def bE.assign{x}(aH:o.op=.assign x):bE P o ev h (ev x) h :=
 .still (λI=>I x ij) λρ W a _ he=>by simp[execOp,aH,he x ij]
def bE.pick{c x y t}(aH:o.op=.pick c x y)(aB:ev c=.bool t):bE P o ev h (if t then ev x else ev y) h :=
 .still (λI=>by cases t;exact I y ij;exact I x ij) λρ W a _ he=>by
  have J:=he c ij;rw[aB] at J;simp only[amu] at J;cases t<;>simp[execOp,aH,J,he x ij,he y ij,asBool]
def execOp_congr{a d}(aC:∀cs b,o.op≠.select cs b)(he:∀x∈o.op.operands,a x=d x):execOp a o=execOp d o:=by
 have⟨dst,op,type,pos,after,guard⟩:=o;simp only at aC he;have q:∀(e:Array (Nat×Operand)),(∀x∈(e.toList.map (·.2)).toArray,a x=d x)->e.map (λ(i,x)=>(i,a x))=e.map (λ(i,x)=>(i,d x)):=by
  refine λe bh=>j5 λp s=>?_;have⟨i,x⟩:=p;simp only;rw[bh x (by simp;exact⟨i,by simpa using s⟩)]
 have g:∀(xs:Array Operand),(∀x∈xs,a x=d x)->xs.map a=xs.map d:=λxs aa=>j5 aa;have j:∀(x:Option Operand),(∀y∈x.toArray,a y=d y)->x.map a=x.map d:=by
  intro x aa;cases x with
  | none=>rfl
  | some y=>simp[aa y aF]
 have k:∀(c:Call) (t:TypeId),(∀x∈c.operands,a x=d x)->resolve a c t=resolve d c t:=by
  intro c t aB;have⟨callee,args,v⟩:=c;have J:args.map a=args.map d:=g _ λx aa=>aB x (by simp[Call.operands,aa]);cases callee with
  | value f=>simp[resolve,J,aB f (by simp[Call.operands])]
  | invoke r m=>simp[resolve,J,aB r (by simp[Call.operands])]
  | builtin b=>simp[resolve,J]
 cases op<;>simp only[Op.operands] at he<;>simp only[execOp];case select cs b=>exact absurd rfl (aC cs b)
 case build t e=>rw[q e he]
 case buildSlice t l e=>rw[q e he]
 case makeFunc fn f c=>rw[g f λx aa=>he x yO,g c λx aa=>he x yO]
 case makeMap t r=>rw[j r he]
 case slice t x l u m=>rw[he x aF,j l λy aN=>he y yN,j u λy aN=>he y yN,j m λy aN=>he y yN]
 case call c=>rw[k c _ he]
 case go c=>rw[k c _ he]
 case defer c=>rw[k c _ he]
 all_goals(try simp_all)
def bE.pure{v}(aC:∀cs b,o.op≠.select cs b)(e:∀x∈o.op.operands,bw 0 (ev x))(d:∀W,(execOp ev o).run P W=.ok (.value v) W)(aE:bw 0 v):bE P o ev h v h :=
 .still (λ_=>hc (dG _) v aE) λρ W g _ he=>by
  rw[execOp_congr aC λx aa=>(he x aa).trans (rE ρ _ (e x aa)),d W,rE ρ v aE]
def bE.extract{x i vs v}(aH:o.op=.extract x i)(aa:ev x=.tuple vs)(ag:vs[i]?=some v):bE P o ev h v h :=
 .still (λI=>by
  have J:=I x ij;rw[aa,y2] at J;exact J v (IZ ag)) λρ W a _ he=>by
  have J:=he x ij;rw[aa,MH] at J;simp[execOp,aH,J,Instr.extract,ag]
def bE.nilCheck{x a}(aH:o.op=.nilCheck x)(aa:ev x=.pointer (some a)):bE P o ev h (ev x) h :=
 .still (λI=>I x ij) λρ W b _ he=>by
  have J:=he x ij;rw[aa,Ec] at J;simp[execOp,aH,J,aa]
def bE.fieldAddr{x t i b f c a}(aH:o.op=.fieldAddr t x i)(aS:P.underlying t=some (.struct b))(d:b[i]?=some f)(ag:P.info? f.type=some c)(e:c.size≠0)(aa:ev x=.pointer (some a)):bE P o ev h (.pointer (some (a.add f.offset))) h :=
 .still (λI=>by
  have J:=I x ij;rw[aa,Ed] at J;rwa[Ed,xK]) λρ W g _ he=>by
  have J:=he x ij;rw[aa,Ec] at J;simp[execOp,aH,J,Instr.fieldAt,kT aS,d,Instr.sureAddr,fieldPlace,sJ ag,e,Cm]
def bE.indexAddr{x y t e f a b cap k i}(aH:o.op=.indexAddr t x y)(aS:P.underlying t=some (.slice e))(ag:P.info? e=some f)(aa:ev x=.slice (some a) b cap)(g:ev y=.int k i)(h0:0<=i)(J:i<b):bE P o ev h (.pointer (some (a.add (i.toNat*f.size)))) h :=
 .still (λI=>by
  have J:=I x ij;rw[aa,vr] at J;rwa[Ed,xK]) λρ W j _ he=>by
  have d:=he x ij;have c:=he y ij;rw[aa,qJ] at d;rw[g,Eb] at c;simp[execOp,aH,d,c,Instr.indexAt,kT aS,asIntOf,sJ ag,h0,J,Cm]
def bE.amE{x y t e f a b k i}(aH:o.op=.indexAddr t x y)(aS:P.underlying t=some (.array b e))(ag:P.info? e=some f)(aa:ev x=.pointer (some a))(g:ev y=.int k i)(h0:0<=i)(J:i<b):bE P o ev h (.pointer (some (a.add (i.toNat*f.size)))) h :=
 .still (λI=>by
  have J:=I x ij;rw[aa,Ed] at J;rwa[Ed,xK]) λρ W j _ he=>by
  have d:=he x ij;have c:=he y ij;rw[aa,Ec] at d;rw[g,Eb] at c;simp[execOp,aH,d,c,Instr.indexAt,kT aS,asIntOf,Instr.sureAddr,sJ ag,h0,J,Cm]
def bE.ay8{x t e A b cap}(aH:o.op=.call {callee:=.builtin .len,args:=#[x],argTypes:=#[t]})(aS:P.underlying t=some (.slice e))(aa:ev x=.slice A b cap):
 bE P o ev h (.int .i64 b) h :=
 .still (λ_=>aF) λρ W d _ he=>by
  have c:=he x wj;rw[aa] at c;cases A with
  | none=>rw[V4] at c;simp[execOp,aH,resolve,invoke,builtin,Builtin.len_,kT aS,c,goInt]
  | some a=>rw[qJ] at c;simp[execOp,aH,resolve,invoke,builtin,Builtin.len_,kT aS,c,goInt]
def bE.G6{x t d a b v}(aH:o.op=.load t x)(aS:P.underlying t=some d)(f:QO d=false)(aa:ev x=.pointer (some a))(aC:a.spot=none)(I:h.m a.block=some b)(aE:b.cells[a.off]?=some v):bE P o ev h v h :=
 .value λ_ ρ W g c he=>by
  have e:=he x ij;rw[aa,Ec] at e;refine⟨ρ,W,?_,c.dP _ _ I v (IZ aE),c,Ext.refl _ _ _⟩;simp[execOp,aH,e,Instr.loadAt,Instr.sureAddr,loadVar,QQ aS,f,c.cell I aC aE]
def amF{cs:Array Value}{i j v}(aE:v∈cs.extract i j):v∈cs:=by
 have⟨k,aj,e⟩:=aaI.1 aE;rw[<-e];exact Uj _
def QR{G ρ W}(e:db G h ρ W){a b}(I:h.m a.block=some b)(aC:a.spot=none){n}(ak:a.off+n<=b.cells.size):
 (loadCells (fJ ρ a) n).run P W=.ok ((b.cells.extract a.off (a.off+n)).map (bP ρ)) W:=by
 have d:((b.cells.extract a.off (a.off+n)).map (bP ρ)).toList.length=n:=jf;have:=run_loadCells_list (P:=P) (w:=W) (fJ ρ a) ((b.cells.extract a.off (a.off+n)).map (bP ρ)).toList (by
  intro j v aE;have i:j<n:=by
   have:=(cS.1 aE).1;omega
  rw[Cm];have c:(a.add j).off=a.off+j:=by unfold Addr.add;by_cases h0:j=0<;>simp[h0]
  have f:(a.add j).spot=none:=by unfold Addr.add;by_cases h0:j=0<;>simp[h0,aC]
  have g:b.cells[(a.add j).off]?=some (b.cells[a.off+j]'U):=by rw[c];exact sn _
  rw[e.cell (by rwa[xK]) f g];rw[<-aE];simp only[DS,gf,pY,ajt];simp[(U:j<min (a.off+n) b.cells.size-a.off),sn (show a.off+j<b.cells.size by omega)])
 rw[d] at this;rw[this]
def bE.QS{x t d c a b}(aH:o.op=.load t x)(aS:P.underlying t=some d)(g:QO d=true)(ag:P.info? t=some c)(aa:ev x=.pointer (some a))(aC:a.spot=none)(I:h.m a.block=some b)(ak:a.off+c.size<=b.cells.size):bE P o ev h (.agg (b.cells.extract a.off (a.off+c.size))) h :=
 .value λ_ ρ W i e he=>by
  have f:=he x ij;rw[aa,Ec] at f;exact⟨ρ,W,by simp[execOp,aH,f,Instr.loadAt,Instr.sureAddr,loadVar,QQ aS,g,sJ ag,QR e I aC ak],by rw[qK];exact λv aE=>e.dP _ _ I v (amF aE),e,Ext.refl _ _ _⟩
def setFrom(cs:Array Value)(off:Nat):List Value->Array Value
 | []=>cs
 | v::vs=>setFrom (cs.setIfInBounds off v) (off+1) vs
def aV.set_set(h:aV)i b c:(h.set i b).set i c=h.set i c:=by
 unfold aV.set;congr 1;funext j;by_cases aA:j=i<;>simp[aA]
def aV.tv{h:aV}{i b}(I:h.m i=some b):h.set i b=h:=by
 have⟨m,n⟩:=h;unfold aV.set;congr 1;funext j;by_cases aA:j=i
 .subst aA;simp at I|-;exact I.symm
 .exact Ea
def Wb{G ρ}:∀(vs:List Value) (i:Nat) {h:aV}{W:World}{a:Addr}{b:cd},db G h ρ W->df<=a.block->h.m a.block=some b->a.spot=none->a.off+i+vs.length<=b.cells.size->(∀v∈vs,bw h.n v)->(∀v∈vs,v.oneCell'=true) ->
 ∃W',(storeCells (fJ ρ a) (vs.map (bP ρ)) i).run P W=.ok () W'/\db G (h.set a.block {b with cells:=setFrom b.cells (a.off+i) vs}) ρ W'/\Ext h (h.set a.block {b with cells:=setFrom b.cells (a.off+i) vs}) ρ ρ W W':=by
 intro vs;induction vs with
 | nil =>
  refine λi h W a b f hw I aC ak aE J=>⟨W,by simp[storeCells],?_⟩;rw[setFrom,aV.tv I];exact⟨f,Ext.refl _ _ _⟩
 | cons v vs z =>
  intro i h W a b f hw I aC ak aE J;have y:(a.add i).off=a.off+i:=by unfold Addr.add;by_cases h0:i=0<;>simp[h0]
  have t:(a.add i).spot=none:=by unfold Addr.add;by_cases h0:i=0<;>simp[h0,aC]
  have d:=xK a i;simp only[e5] at ak;have s:(a.add i).off<b.cells.size:=U;have⟨k,w⟩:=f.write (by rw[d];exact hw) (by rw[d];exact I) t s (aE v aF);rw[d,y] at k w;have x:(bP ρ v).oneCell'=true:=by
   have:=J v aF;revert this;cases v with
   | pointer a=>cases a<;>simp[Value.oneCell']
   | slice a l c=>cases a<;>simp[Value.oneCell']
   | map a=>cases a<;>simp[Value.oneCell']
   | chan a=>cases a with
    | none=>intro h;rw[bP]<;>simp_all
    | some r=>rw[bP];simp[Value.oneCell']
   | _=>simp[Value.oneCell']
  obtain⟨W',aM,g,q⟩:=z (i+1) (b:={b with cells:=b.cells.setIfInBounds (a.off+i) v}) k hw acb aC jf (λu hu=>aE u (by simp[hu])) (λu hu=>J u (by simp[hu]));rw[aV.set_set] at g q;refine⟨W',?_,g,w.trans q⟩;rw[gg,storeCells,gG,Cm,run_store _ _ _ _ _ x];simp only[f.cell (by rwa[d]) t (sn _:b.cells[(a.add i).off]?=some (b.cells[(a.add i).off])),f.km (by rw[d];exact hw) (by rwa[d]) s];exact aM
def Vx(v:Value):Bool:=v.cells.all (·.oneCell')
def QT ρ v:(bP ρ v).cells=v.cells.map (bP ρ):=by
 cases v with
 | agg cs=>simp[Value.cells]
 | pointer a=>cases a<;>simp[Value.cells]
 | slice a l c=>cases a<;>simp[Value.cells]
 | map a=>cases a<;>simp[Value.cells]
 | chan a=>cases a with
  | none=>rw[bP]<;>simp[Value.cells];rw[bP]<;>simp
  | some r=>simp only[Value.cells];rw[bP];simp;rw[bP]
 | _=>simp[Value.cells]
def yT{n v}(aE:bw n v):∀u∈v.cells,bw n u:=by
 cases v with
 | agg cs=>simpa[Value.cells] using aE
 | _=>simp only[Value.cells,uo,gU];rintro u rfl;exact aE
def bE.store{x y t c a b}(aH:o.op=.store t x y)(ag:P.info? t=some c)(aa:ev x=.pointer (some a))(aC:a.spot=none)(hw:df<=a.block)(I:h.m a.block=some b)(g:(ev y).cells.size=c.size)(e:Vx (ev y)=true)(ak:a.off+c.size<=b.cells.size):
 bE P o ev h undef (h.set a.block {b with cells:=setFrom b.cells a.off (ev y).cells.toList}) :=
 .done λi ρ W q l he=>by
  have f:=he x ij;rw[aa,Ec] at f;have d:∀v∈(ev y).cells.toList,v.oneCell'=true:=by
   intro v aE;unfold Vx at e;exact Ul.1 e v lL
  have⟨W',aM,j,k⟩:=Wb (P:=P) (ev y).cells.toList 0 l hw I aC (by simp[g];omega) (λv aE=>yT (i y ij) v lL) d;refine⟨ρ,W',?_,by simpa using j,by simpa using k⟩;simp only[execOp,aH,f,he y ij,Instr.storeAt,Instr.sureAddr,storeVar,gG,hQ,hj,sJ ag];rw[ai (by rw[QT];simp[g])];simp only[QT,hj,DS,aM]
def bE.alloc{t e z}(aH:o.op=.alloc t)(ag:P.info? t=some e)(w:e.zero=some z)(m:bw 0 z)(g:t<mapM):
 bE P o ev h (.pointer (some ⟨h.n,0,none⟩)) (h.push ⟨z.cells,t⟩) :=
 .value λ_ ρ W x u _=>by
  have d:=yT m;have⟨q,s⟩:=u.new (b:=⟨z.cells,t⟩) g (λv aE=>hc (dG _) v (d v aE)) #[] aF (0,0) Qm {W with heap:=W.heap.push (.cells z.cells t)}
   (by simp only[PQ];rw[j5 λv aE=>rE _ v (d v aE)];simp) rfl rfl rfl
  refine⟨_,_,?_,Ca,q,s⟩;simp[execOp,aH,Instr.alloc,QP ag w,newVar,newRow,fJ,eY.add]
def bE.box{t x}(aH:o.op=.box t x)(e:t<mapM):bE P o ev h (.pointer (some ⟨h.n,0,none⟩)) (h.push ⟨(ev x).cells,t⟩) :=
 .value λg ρ W u s he=>by
  have d:=yT (g x ij);have⟨m,q⟩:=s.new (b:=⟨(ev x).cells,t⟩) e (λv aE=>hc (hr _) v (d v aE)) #[] aF (0,0) Qm {W with heap:=W.heap.push (.cells (bP ρ (ev x)).cells t)}
   (by simp only[PQ,QT];rw[j5 λv aE=>(vn (eY.AJ ρ h.n _ _) v (d v aE))]) rfl rfl rfl
  refine⟨_,_,?_,Ca,m,q⟩;simp[execOp,aH,he x ij,Instr.box,newVar,newRow,fJ,eY.add]
end
section
variable{o:Oper}{ev:Operand->Value}
def aza ρ off:∀(l:List (Value×Nat)) (cs:Array Value),
 (l.map λp=>(bP ρ p.1,p.2)).foldl (λcs p=>cs.setIfInBounds (off+p.2) p.1) (cs.map (bP ρ))=(l.foldl (λcs p=>cs.setIfInBounds (off+p.2) p.1) cs).map (bP ρ):=by
 intro l;induction l with
 | nil=>intro cs;rfl
 | cons p l a=>intro cs;simp only[gg,At];rw[<-ajr,a]
def azb off{Q:Value->Prop}:∀(l:List (Value×Nat)) (cs:Array Value),(∀v∈cs,Q v)->(∀p∈l,Q p.1)->∀v∈l.foldl (λcs p=>cs.setIfInBounds (off+p.2) p.1) cs,Q v:=by
 intro l;induction l with
 | nil=>exact λcs aB _=>aB
 | cons p l b =>
  refine λcs aB a=>b _ (λv aE=>?_) (λq aG=>a q QF);rcases aaF aE with J|J
  .exact aB v J
  .rw[J];exact a p aF
def acr ρ d:∀(c:List (Nat×Value)) (a cs:Array Value),Instr.fill d a c=some cs ->
 Instr.fill d (a.map (bP ρ)) (c.map λp=>(p.1,bP ρ p.2))=some (cs.map (bP ρ)):=by
 intro c;induction c with
 | nil=>intro a cs b;simp[Instr.fill] at b|-;rw[b]
 | cons p c f =>
  intro a cs b;have⟨i,v⟩:=p;simp only[Instr.fill,gg] at b|-;cases bh:d i with
  | none=>simp[bh] at b
  | some q =>
   have⟨off,size⟩:=q;simp only[bh] at b|-;by_cases aB:v.cells.size≠size||off+v.cells.size>a.size
   .rw[au aB] at b;cases b
   .rw[ai aB] at b;have e:¬((bP ρ v).cells.size≠size||off+(bP ρ v).cells.size>(a.map (bP ρ)).size):=by rw[QT];simpa using aB
    rw[ai e];have:=f _ _ b;rw[<-this];congr 1;simp only[QT,<-Um,Un,DS,List.zipIdx_map];exact aza ρ off _ a
def acs{Q:Value->Prop}e:∀(c:List (Nat×Value)) (a cs:Array Value),Instr.fill e a c=some cs->(∀v∈a,Q v)->(∀p∈c,∀v∈p.2.cells,Q v)->∀v∈cs,Q v:=by
 intro c;induction c with
 | nil=>intro a cs b aB _;simp[Instr.fill] at b;subst b;exact aB
 | cons p c f =>
  intro a cs b aB d;have⟨i,v⟩:=p;simp only[Instr.fill] at b;cases bh:e i with
  | none=>simp[bh] at b
  | some q =>
   have⟨off,size⟩:=q;simp only[bh] at b;split at b
   .cases b
   .refine f _ _ b (λu hu=>?_) (λq aG=>d q QF);rw[<-Um] at hu;refine azb off (Q:=Q) _ a aB (λq aG=>?_) u hu;have:=d (i,v) aF;refine this q.1 ?_;rw[Un] at aG;exact(by simpa using(List.fst_mem_of_mem_zipIdx aG))
def azc ρ{t b cs g z}(ag:P.info? t=some g)(j:g.zero=some z)(s:bw 0 z)(I:P.built t b=some cs):
 P.built t (b.map λp=>(p.1,bP ρ p.2))=some (cs.map (bP ρ)):=by
 have m:z.cells.map (bP ρ)=z.cells:=by
  conv=>rhs;rw[<-we z.cells]
  exact j5 λv aE=>rE ρ v (yT s v aE)
 unfold Program.built at I|-;simp only[ag] at I|-;cases hu:P.underlying t with
 | none=>simp[hu] at I
 | some d =>
  simp only[hu] at I|-;cases d<;>try(simp at I;done)
  case array n e =>
   simp only at I|-;cases k:P.info? e with
   | none=>simp[k] at I
   | some u =>
    simp only[k,j] at I|-;have:=acr ρ _ _ _ _ I;rwa[m] at this
  case struct q =>
   simp only at I|-;cases bh:q.toList.mapM (λf=>(P.info? f.type).map λi=>(f.offset,i.size)) with
   | none=>simp[bh] at I
   | some places =>
    simp only[bh,j] at I|-;have:=acr ρ _ _ _ _ I;rwa[m] at this
def aze{Q:Value->Prop}{t c cs g z}(ag:P.info? t=some g)(j:g.zero=some z)(b:∀v∈z.cells,Q v)(I:P.built t c=some cs)(a:∀p∈c,∀v∈p.2.cells,Q v):∀v∈cs,Q v:=by
 unfold Program.built at I;simp only[ag] at I;cases hu:P.underlying t with
 | none=>simp[hu] at I
 | some d =>
  simp only[hu] at I;cases d<;>try(simp at I;done)
  case array n e =>
   simp only at I;cases k:P.info? e with
   | none=>simp[k] at I
   | some m =>
    simp only[k,j] at I;exact acs _ _ _ _ I b a
  case struct l =>
   simp only at I;cases bh:l.toList.mapM (λf=>(P.info? f.type).map λi=>(f.offset,i.size)) with
   | none=>simp[bh] at I
   | some places =>
    simp only[bh,j] at I;exact acs _ _ _ _ I b a
def bE.build{t a cs d z}(aH:o.op=.build t a)(ag:P.info? t=some d)(e:d.zero=some z)(b:bw 0 z)(I:P.built t (a.toList.map λp=>(p.1,ev p.2))=some cs):bE P o ev h (.agg cs) h :=
 .still (λl5=>by
  rw[qK];refine aze ag e (λv aE=>hc (dG _) v (yT b v aE)) I (λp bh v aE=>?_);simp only[ih] at bh;obtain⟨q,aG,rfl⟩:=bh;exact akf) λρ W c _ he=>by
  have J:a.map (λ(i,x)=>(i,c x))=(a.toList.map λp=>(p.1,bP ρ (ev p.2))).toArray:=by
   rw[<-aaL];simp only[DS];refine As λp bh=>?_;have⟨i,x⟩:=p;simp only;rw[he x akJ]
  have f:=azc ρ ag e b I;rw[Gv] at f;simp only[execOp,aH,gG];rw[run_build (P:=P) W t (a.map (λ(i,x)=>(i,c x))) (cs.map (bP ρ)) (by rwa[J])];simp
def wA(z:Array Value)(n:Nat):Array Value:=(Array.range n).map (z[· % z.size]!)
def Wc{Q:Value->Prop}{z}(a:∀v∈z,Q v)(b:Q default)n:∀v∈wA z n,Q v:=by
 intro v aE;unfold wA at aE;obtain⟨i,_,rfl⟩:=Uo.1 aE;by_cases ag:i%z.size<z.size
 .rw[getElem!_pos z _ ag];exact a _ (Uj ag)
 .rwa[getElem!_neg z _ ag]
def amH{z}(b:∀v∈z,bw 0 v)n ρ:(wA z n).map (bP ρ)=wA z n:=by
 conv=>rhs;rw[<-we (wA z n)]
 refine j5 λv aE=>?_;refine rE ρ v (Wc (Q:=bw 0) b ?_ n v aE);show bw 0 (default:Value);simp[default,instInhabitedValue.default]
def db.newRow{G ρ W}(j:db G h ρ W){cs}{e:TypeId}(d:e<mapM)(aB:∀v∈cs,bw h.n v):
 ∃ρ',ρ'.bJ h.n=W.heap.size/\(ρ'.cap h.n=cs.size/\ρ'.fO h.n=0)/\xI h.n ρ ρ'/\db G (h.push ⟨cs,e⟩) ρ' {W with heap:=W.heap.push (.cells (cs.map (bP ρ)) e)}/\Ext h (h.push ⟨cs,e⟩) ρ ρ' W {W with heap:=W.heap.push (.cells (cs.map (bP ρ)) e)}:=by
 have⟨g,i⟩:=j.new (b:=⟨cs,e⟩) d (λv aE=>hc (hr _) v (aB v aE)) #[] aF (0,0) Qm {W with heap:=W.heap.push (.cells (cs.map (bP ρ)) e)}
  (by simp only[PQ];rw[j5 λv aE=>(vn (eY.AJ ρ h.n _ _) v (aB v aE))]) rfl rfl rfl
 exact⟨_,Jo,Jo,eY.AJ _ _ _ _,g,i⟩
def bE.buildSlice{t e a f cs d z}(aH:o.op=.buildSlice t a f)(aS:P.underlying t=some (.slice e))(ag:P.info? e=some d)(D:d.zero=some z)(g:bw 0 z)(m:e<mapM)(F:a*d.size<=2^24)(k:a*d.size≠0)(I:Instr.fill (λi=>some (i*d.size,d.size)) (wA z.cells (a*d.size)) (f.toList.map λp=>(p.1,ev p.2))=some cs):
 bE P o ev h (.slice (some ⟨h.n,0,none⟩) a a) (h.push ⟨cs,e⟩) :=
 .value λl5 ρ W l B he=>by
  have r:∀v∈cs,bw h.n v:=by
   refine acs _ _ _ _ I (Wc (λv aE=>hc (dG _) v (yT g v aE)) abk _) (λp bh v aE=>?_);simp only[ih] at bh;obtain⟨q,aG,rfl⟩:=bh;exact akf
  have J:(f.map (λ(i,x)=>(i,l x))).toList=f.toList.map λp=>(p.1,bP ρ (ev p.2)):=by
   simp only[DS];refine As λp bh=>?_;have⟨i,x⟩:=p;simp only;rw[he x akJ]
  have A:=acr ρ _ _ _ _ I;rw[amH (yT g),Gv] at A;have⟨ρ',y,⟨aB,E⟩,H,s,w⟩:=B.newRow m r;refine⟨ρ',_,?_,Ca,s,w⟩;have C:Instr.fill (λi=>some (i*d.size,d.size)) ((Array.range (a*d.size)).map (z.cells[· % z.cells.size]!)) (f.map (λ(i,x)=>(i,l x))).toList=some (cs.map (bP ρ)):=by
   rwa[J]
  have u:jv ρ' ⟨h.n,0,none⟩ a=a:=by
   unfold jv nw;have:d.size≠0:=λe=>k (by rw[e,Nat.mul_zero]);have:a<=a*d.size:=aju _ U;rw[au U]
  simp only[execOp,aH,Instr.buildSlice,gG,kT aS,hj,sJ ag];rw[ai U];simp only[hQ,hj,k,jE,gG,QP ag D,C,newRow,run_newObj];simp[fJ,y,E,u]
end
section
variable{o:Oper}{ev:Operand->Value}
def azf z:wA z 0=#[]:=Ug (by simp[wA])
def bE.makeSlice{t e x y}{l c:Nat}{k k' a z}(aH:o.op=.makeSlice t x y)(aS:P.underlying t=some (.slice e))(ag:P.info? e=some a)(E:a.zero=some z)(g:bw 0 z)(A:e<mapM)(aa:ev x=.int k l)(D:ev y=.int k' c)(B:l<=c)(aB:c<=9223372036854775807)(F:a.bytes*c<=2^48):
 bE P o ev h (.slice (some ⟨h.n,0,none⟩) l c) (h.push ⟨wA z.cells (c*a.size),e⟩) :=
 .value λH ρ W J C he=>by
  have q:=he x ij;have m:=he y ij;rw[aa,Eb] at q;rw[D,Eb] at m;have⟨ρ',u,⟨I,w⟩,K,r,s⟩:=C.newRow A (Wc (λv aE=>hc (dG _) v (yT g v aE)) abk _:∀v∈wA z.cells (c*a.size),bw h.n v);rw[amH (yT g)] at r s;refine⟨ρ',_,?_,Ca,r,s⟩;have hw:∀n:Nat,n<=9223372036854775807->IntKind.i64.wrap (n:Int)=n:=by
   intro n ak;simp[IntKind.wrap,IntKind.bits,IntKind.signed];omega
  have d:jv ρ' ⟨h.n,0,none⟩ c=c:=by unfold jv nw;rw[au U]
  have f:((decide ((c:Int)<0)||decide ((a.bytes:Int)*(c:Int)>2^48))||decide ((l:Int)<0)||decide ((l:Int)>(c:Int)))=false:=by
   simp only[PR,yE];omega
  simp only[execOp,aH,Instr.makeSlice,q,m,gG,kT aS,hj,asInt,asIntOf,hQ,V9 ag,hw l U,hw c aB];rw[ai (by rw[f];simp)];simp only[hj,gG,sJ ag,ry];by_cases ak:c*a.size=0
  .rw[ak,azf];simp only[kB,hQ,hj,newRow,gG,run_newObj];rw[show(Array.range 0).map (λx=>(#[]:Array Value)[x%(#[]:Array Value).size]!)=#[] from Ug aF];simp[fJ,u,w,d]
  .simp only[ak,jE,gG,QP ag E,hj,hQ,newRow,run_newObj];simp[wA,fJ,u,w,d]
def iP(h:aV)(size n:Nat):Value->Option (Array Value)
 | .slice (some a) _ _=>match h.m a.block with
  | some b=>if a.spot=none/\a.off+n*size<=b.cells.size then some (b.cells.extract a.off (a.off+n*size)) else none
  | none=>none
 | .slice none _ _=>some #[]
 | .string s=>some ((s.extract 0 n).data.map λb=>.int .u8 b.toNat)
 | _=>none
def Eg:Value->Option Nat
 | .slice _ n _=>some n
 | .string s=>some s.size
 | _=>none
def Cp{G ρ W}(e:db G h ρ W){size n x cs}(aB:iP h size n x=some cs):
 (Builtin.firstCells size n (bP ρ x)).run P W=.ok (cs.map (bP ρ)) W/\∀v∈cs,bw h.n v:=by
 cases x with
 | slice A l c =>
  cases A with
  | none=>simp[iP] at aB;subst aB;simp[Builtin.firstCells]
  | some a =>
   simp only[iP] at aB;cases I:h.m a.block with
   | none=>simp[I] at aB
   | some b =>
    simp only[I] at aB;split at aB
    .rename_i d;injection aB with aB;subst aB;refine⟨?_,λv aE=>e.dP _ _ I v (amF aE)⟩;simp only[qJ,Builtin.firstCells];exact QR e I d.1 d.2
    .cases aB
 | string s =>
  simp only[iP,dh] at aB;subst aB;refine⟨by simp only[amv,Builtin.firstCells,hQ,Gw];congr 1;exact j5 λb _=>aF,λv aE=>?_⟩;obtain⟨b,_,rfl⟩:=Uo.1 aE;simp
 | _=>simp[iP] at aB
def QV{ρ W x n}(ak:Eg x=some n):(Builtin.lenOf (bP ρ x)).run P W=.ok n W:=by
 cases x with
 | slice A l c=>cases A<;>simp[Eg] at ak<;>simp[Builtin.lenOf,ak]
 | string s=>simp[Eg] at ak;simp[Builtin.lenOf,ak]
 | _=>simp[Eg] at ak
def bE.copy{x y t s e f a c cap m b cs}(aH:o.op=.call {callee:=.builtin .copy,args:=#[x,y],argTypes:=#[t,s]})(aS:P.underlying t=some (.slice e))(ag:P.info? e=some f)(aa:ev x=.slice (some a) c cap)(hm:Eg (ev y)=some m)(j:iP h f.size (min m c) (ev y)=some cs)(aC:a.spot=none)(hw:df<=a.block)(I:h.m a.block=some b)(ak:a.off+cs.size<=b.cells.size)(i:cs.all (·.oneCell')=true):
 bE P o ev h (.int .i64 (min m c:Nat)) (h.set a.block {b with cells:=setFrom b.cells a.off cs.toList}) :=
 .value λu ρ W w g he=>by
  have d:=he x wj;rw[aa,qJ] at d;have⟨l,k⟩:=Cp (P:=P) g j;have⟨W',aM,q,r⟩:=Wb (P:=P) cs.toList 0 g hw I aC yI (λv aE=>k v lL) (λv aE=>Ul.1 i v lL);refine⟨ρ,W',?_,aF,by simpa using q,by simpa using r⟩;simp only[execOp,aH,resolve,invoke,builtin,Builtin.copy_,gG,hQ,hj,so,gg,oH,d,he y wj];simp only[DQ,kC,pg,gG,kT aS,hj,QV hm,sJ ag,(rfl:Nat.min m c=min m c),l,DS,aM,hQ,goInt];simp
def Eh:TypeDesc->Bool
 | .slice _|.string=>true
 | _=>false
def acu{t t2 ty e d2 b}(aS:P.underlying t=some (.slice e))(j:P.underlying t2=some d2)(g:Eh d2=true)(ag:P.info? e=some b){A a cap n x new W W'}(i:(Builtin.lenOf x).run P W=.ok n W)(f:(Builtin.firstCells b.size n x).run P W=.ok new W)(c:a+n<=cap)(d:(storeCells (A.add (a*b.size)) new.toList).run P W=.ok () W'):(Builtin.append_ #[t,t2] ty #[.slice (some A) a cap,x]).run P W=.ok (.slice (some A) (a+n) cap) W':=by
 cases d2<;>simp only[Eh,nN] at g<;>simp[Builtin.append_,kT aS,kT j,sJ ag,i,f,c,d]
def run_append_nil{t t2 ty e d2 b}(aS:P.underlying t=some (.slice e))(i:P.underlying t2=some d2)(f:Eh d2=true)(ag:P.info? e=some b){a cap n x new W}(g:(Builtin.lenOf x).run P W=.ok n W)(d:(Builtin.firstCells b.size n x).run P W=.ok new W)(c:a+n<=cap):
 (Builtin.append_ #[t,t2] ty #[.slice none a cap,x]).run P W=.ok (.slice none (a+n) cap) W:=by
 cases d2<;>simp only[Eh,nN] at f<;>simp[Builtin.append_,kT aS,kT i,sJ ag,g,d,c]
def amJ{t t2 ty e d2 b z}(aS:P.underlying t=some (.slice e))(l:P.underlying t2=some d2)(s:Eh d2=true)(ag:P.info? e=some b)(v:b.zero=some z){A a cap n x new c W}(u:∀W,(Builtin.lenOf x).run P W=.ok n W)(r:∀d,(Builtin.firstCells b.size n x).run P {W with drawn:=d}=.ok new {W with drawn:=d})(j:∀d,(Builtin.firstCells b.size a (.slice A a cap)).run P {W with drawn:=d}=.ok c {W with drawn:=d})(m:cap<a+n)(y:a+n<=9223372036854775807)(w:(a+n)*b.bytes<=140737488355328):
 ∃k,a+n<=k/\(Builtin.append_ #[t,t2] ty #[.slice A a cap,x]).run P W=.ok (.slice (some ⟨W.heap.size,0,none⟩) (a+n) k)
  {W with drawn:=W.drawn+1,heap:=W.heap.push (.cells (c++new++Builtin.zeroCells z.cells (k-(a+n))) e)}:=by
 have ak:¬(a+n<=cap):=U;have i:¬(9223372036854775807<((a:Int)+(n:Int))):=U;have g:¬(281474976710656<Builtin.nextslicecap (a+n) cap*b.bytes):=by
  have J:=nextslicecap_le m;have l:Builtin.nextslicecap (a+n) cap*b.bytes<=2*(a+n)*b.bytes:=I2 _ J;have B:2*(a+n)*b.bytes=2*((a+n)*b.bytes):=by rw[PN]
  omega
 have f:(Builtin.firstCells b.size a (.slice A a cap)).run P W.drew=.ok c W.drew:=j (W.drawn+1);have q:(Builtin.firstCells b.size n x).run P W.drew=.ok new W.drew:=r (W.drawn+1);refine⟨(Question.appendCap (a+n) cap e).cut (W.tape W.drawn (Question.appendCap (a+n) cap e)),by simp[Question.cut],?_⟩;cases d2<;>simp only[Eh,nN] at s <;>
  simp[Builtin.append_,kT aS,kT l,sJ ag,V9 ag,QP ag v,u,ak,i,g,choose,Sem.run,Question.forced,f,q,newRow]<;>rfl
end
section
variable{o:Oper}{ev:Operand->Value}
def db.QW{G ρ W W'}(aH:db G h ρ W)(he:W'.heap=W.heap):db G h ρ W' :=
 ⟨λi b I=>by rw[he];exact aH.fa i b I,aH.lt,aH.inj,aH.dP,aH.fu,aH.kk,aH.nx⟩
def dF(size:Nat):Nat:=nw+size
def JI{ρ a size}:jv ρ a (dF size)=(ρ.cap a.block-a.off)/size:=by
 unfold jv dF;rw[ai U,PS]
def amK{z}(a:∀v∈z,bw 0 v)n:∀v∈Builtin.zeroCells z n,bw 0 v:=Wc (Q:=bw 0) a abk _
def amL z n:(Builtin.zeroCells z n).size=n*z.size:=by simp[Builtin.zeroCells]
def bE.G9{x y t t2 e d2 m z A g cap n q new}(aH:o.op=.call {callee:=.builtin .append,args:=#[x,y],argTypes:=#[t,t2]})(aS:P.underlying t=some (.slice e))(Y:P.underlying t2=some d2)(X:Eh d2=true)(ag:P.info? e=some m)(Z:m.zero=some z)(N:bw 0 z)(L:e<mapM)(QX:z.cells.size=m.size)(Q:0<m.size)(aa:ev x=.slice A g cap)(C:cap<nw)(F:iP h m.size g (.slice A g cap)=some q)(u:q.size=g*m.size)(ak:Eg (ev y)=some n)(E:iP h m.size n (ev y)=some new)(JJ:new.size=n*m.size)(M:cap<g+n)(K:g+n<=9223372036854775807)(H:(g+n)*m.bytes<=140737488355328):
 bE P o ev h (.slice (some ⟨h.n,0,none⟩) (g+n) (dF m.size)) (h.push ⟨q++new,e⟩) :=
 .value λl5 ρ W T s he=>by
  have B:T x=.slice (A.map (fJ ρ)) g cap:=by
   rw[he x wj,aa];cases A with
   | none=>simp
   | some a=>simp[jv,C]
  have⟨fq,R⟩:=Cp (P:=P) s E;have⟨_,O⟩:=Cp (P:=P) s F;obtain⟨k,aj,S⟩:=amJ (P:=P) (W:=W) (ty:=o.type) (A:=A.map (fJ ρ)) aS Y X ag Z
   (λW=>QV ak) (λd=>(Cp (P:=P) (s.QW (W':={W with drawn:=d}) rfl) E).1)
   (λd=>by
    have:=(Cp (P:=P) (s.QW (W':={W with drawn:=d}) rfl) F).1;cases A with
    | none=>simpa using this
    | some a=>simpa[jv,C] using this) M K H
  have D:∀v∈q++new,bw h.n v:=by
   intro v aE;rcases I1.1 aE with J|J
   .exact O v J
   .exact R v J
  have⟨U,V⟩:=s.new (b:=⟨q++new,e⟩) L (λv aE=>hc (hr _) v (D v aE)) (Builtin.zeroCells z.cells (k-(g+n))) (amK (yT N) _) (0,0) Qm
   {W with drawn:=W.drawn+1,heap:=W.heap.push (.cells (q.map (bP ρ)++new.map (bP ρ)++Builtin.zeroCells z.cells (k-(g+n))) e)}
   (by simp only;rw[j5 λv aE=>(vn (eY.AJ ρ h.n W.heap.size ((q++new).size+(Builtin.zeroCells z.cells (k-(g+n))).size)) v (D v aE)),Uk]) rfl rfl rfl
  refine⟨_,_,?_,Ca,U,V⟩;have w:(ρ.add h.n W.heap.size ((q++new).size+(Builtin.zeroCells z.cells (k-(g+n))).size)).cap h.n=k*m.size:=by
   simp only[eY.add,kB,Array.size_append,u,JJ,amL,QX];rw[<-DT,<-DT];congr 1;omega
  simp only[execOp,aH,resolve,invoke,builtin,gG,hQ,hj,so,gg,oH,B,he y wj,S];simp only[qJ,fJ,JI,w,yF];rw[Nat.mul_div_cancel _ Q];simp[eY.add]
def bE.amM{x y t t2 e d2 d a c cap n b new}(aH:o.op=.call {callee:=.builtin .append,args:=#[x,y],argTypes:=#[t,t2]})(aS:P.underlying t=some (.slice e))(q:P.underlying t2=some d2)(E:Eh d2=true)(ag:P.info? e=some d)(z:0<d.size)(aa:ev x=.slice (some a) c cap)(aC:a.spot=none)(hw:df<=a.block)(w:cap=dF d.size\/(cap<nw/\c+n<=cap))(I:h.m a.block=some b)(K:a.off+(c+n)*d.size<=b.cells.size)(ak:Eg (ev y)=some n)(B:iP h d.size n (ev y)=some new)(H:new.size=n*d.size)(s:new.all (·.oneCell')=true):
 bE P o ev h (.slice (some a) (c+n) cap) (h.set a.block {b with cells:=setFrom b.cells (a.off+c*d.size) new.toList}) :=
 .value λu ρ W L f he=>by
  have i:=he x wj;rw[aa,qJ] at i;have⟨D,C⟩:=Cp (P:=P) f B;have r:c+n<=jv ρ a cap:=by
   rcases w with rfl|⟨J,q⟩
   .rw[JI,Up z];have aB:=(f.fa _ _ I).acj hw;omega
   .unfold jv;rwa[au J]
  have g:(c+n)*d.size=c*d.size+n*d.size:=DT _ _ _;have j:(a.add (c*d.size)).off=a.off+c*d.size:=Qc;have F:(a.add (c*d.size)).spot=none:=Qc;obtain⟨W',aM,k,l⟩:=Wb (P:=P) new.toList 0 f (by rw[xK];exact hw) (by rwa[xK]) F (by rw[j];simp[H];omega) (λv aE=>C v lL) (λv aE=>Ul.1 s v lL);rw[xK,j,nq] at k l;refine⟨ρ,W',?_,?_,k,l⟩
  .simp only[execOp,aH,resolve,invoke,builtin,gG,hQ,hj,so,gg,oH,i,he y wj,acu (P:=P) (W:=W) (W':=W') (ty:=o.type) (A:=fJ ρ a) aS q E ag (QV ak) D r (by rwa[Cm,DS]),qJ]
  .have:=u x wj;rw[aa,vr] at this;rwa[vr]
def bE.JK{x y t t2 e d2 s z i g n b new}(aH:o.op=.call {callee:=.builtin .append,args:=#[x,y],argTypes:=#[t,t2]})(aS:P.underlying t=some (.slice e))(F:P.underlying t2=some d2)(aq:Eh d2=true)(ag:P.info? e=some s)(a7:s.zero=some z)(iX:bw 0 z)(T:e<mapM)(QX:z.cells.size=s.size)(Y:0<s.size)(aa:ev x=.slice (some ⟨i,0,none⟩) g (dF s.size))(hw:df<=i)(I:h.m i=some b)(V:b.elem=e)(D:b.cells.size=g*s.size)(ak:Eg (ev y)=some n)(Z:iP h s.size n (ev y)=some new)(S:new.size=n*s.size)(mx:new.all (·.oneCell')=true)(ps:g+n<=9223372036854775807)(qN:(g+n)*s.bytes<=140737488355328):
 bE P o ev h (.slice (some ⟨h.n,0,none⟩) (g+n) (dF s.size)) ((h.fB i).push ⟨b.cells++new,e⟩) :=
 .value λl5 ρ W fW w he=>by
  have M:=he x wj;have g2:=he y wj;rw[aa,qJ] at M;have⟨fq,hg⟩:=Cp (P:=P) w Z;by_cases H:g+n<=jv ρ ⟨i,0,none⟩ (dF s.size)
  .have aQ4:(g+n)*s.size<=ρ.cap i:=by
    rw[JI,Up Y] at H;simpa using H
   have hmul:(g+n)*s.size=g*s.size+n*s.size:=DT _ _ _;have⟨ik,JL,amN,uG,AK⟩:=w.ik hw I (by rw[V];exact T) (k:=n*s.size) U;have fw:((⟨i,0,none⟩:Addr).add (g*s.size))=⟨i,g*s.size,none⟩:=by
    unfold Addr.add;split<;>simp_all
   have⟨W',aM,C,E⟩:=Wb (P:=P) new.toList 0 (a:=⟨i,g*s.size,none⟩) (b:={b with cells:=b.cells++ik}) uG hw acb rfl (by simp[S,JL,D]) (λv aE=>hg v lL) (λv aE=>Ul.1 mx v lL);simp only[nq,aV.set_set] at C E;have kI:∀(l:List Value) (p q:Array Value),l.length=q.size->setFrom (p++q) p.size l=p++l.toArray:=by
    intro l;induction l with
    | nil=>intro p q aG;simp at aG;have:q=#[]:=Ug aG.symm;subst this;simp[setFrom]
    | cons v l aP =>
     intro p q aG;have⟨q⟩:=q;cases q with
     | nil=>simp at aG
     | cons u q =>
      rw[setFrom];have aK:(p++(u::q).toArray).setIfInBounds p.size v=(p.push v)++q.toArray:=by
       rw[Array.setIfInBounds_append_right (b4 _)];simp
      rw[aK];have br:=aP (p.push v) q.toArray abA;rw[Array.size_push] at br;rw[br,<-aaL];simp
   rw[<-D,kI new.toList b.cells ik (by simp[S,JL])] at C E;simp only[Array.toArray_toList] at C E;have⟨Ha,JM⟩:=C.rename (b:={b with cells:=b.cells++new}) hw acb;have Q:((h.set i {b with cells:=b.cells++new}).fB i).push {b with cells:=b.cells++new}=(h.fB i).push ⟨b.cells++new,e⟩:=by
    rw[<-V];unfold aV.push aV.fB aV.set;congr 1;funext j;by_cases J:j=h.n<;>by_cases F:j=i<;>simp[J,F]
   rw[Q] at Ha JM;refine⟨_,W',?_,VD,Ha,(AK.trans (by simpa[aV.set_set] using E:Ext (h.set i {b with cells:=b.cells++ik}) (h.set i {b with cells:=b.cells++new}) ρ ρ W W')).trans JM⟩;have L:=acu (P:=P) (W:=W) (W':=W') (ty:=o.type) (A:=fJ ρ ⟨i,0,none⟩) aS F aq ag (QV ak) fq H
    (by rwa[Cm,fw,DS])
   simp only[execOp,aH,resolve,invoke,builtin,gG,hQ,hj,so,gg,oH,M,g2,L];simp only[qJ,JI];simp[fJ,eY.add,aV.set,(w.fa _ _ I).aci hw]
  .have eC:iP h s.size g (.slice (some ⟨i,0,none⟩) g (dF s.size))=some b.cells:=by
    simp only[iP,I];rw[au ⟨ew,U⟩,<-D];simp
   have⟨_,iQ⟩:=Cp (P:=P) w eC;obtain⟨k,aj,L⟩:=amJ (P:=P) (W:=W) (ty:=o.type) (A:=some (fJ ρ ⟨i,0,none⟩)) aS F aq ag a7
    (λW=>QV ak) (λd=>(Cp (P:=P) (w.QW (W':={W with drawn:=d}) rfl) Z).1)
    (λd=>by
     have:=(Cp (P:=P) (w.QW (W':={W with drawn:=d}) rfl) eC).1;simpa using this) U ps qN
   have X:∀v∈b.cells++new,bw h.n v:=by
    intro v aE;rcases I1.1 aE with J|J
    .exact iQ v J
    .exact hg v J
   have O:db P.globals.size (h.fB i) ρ W:=by
    have B:∀j c,(h.fB i).m j=some c->h.m j=some c:=by
     intro j c aA;simp only[aV.fB] at aA;split at aA
     .cases aA
     .exact aA
    exact⟨λj c aA=>w.fa _ _ (B j c aA),λj c aA=>w.lt _ _ (B j c aA),λj l c d K aA ao=>w.inj _ _ _ _ K (B j c aA) (B l d ao),λj c aA=>w.dP _ _ (B j c aA),w.fu,w.kk,w.nx⟩
   have N:Ext h (h.fB i) ρ ρ W W:=⟨λ_ _=>⟨rfl,rfl,rfl⟩,b4 _,λ_ _ _=>rfl,b4 _,λj c K aA _=>by
    simp only[aV.fB] at aA;split at aA
    .cases aA
    .exact⟨j,c,K,aA,rfl⟩,rfl,rfl,rfl,λj c _ aA=>by
    simp only[aV.fB] at aA;split at aA
    .cases aA
    .exact abV⟩
   have⟨ez,bB⟩:=O.new (b:=⟨b.cells++new,e⟩) T (λv aE=>hc (hr _) v (X v aE)) (Builtin.zeroCells z.cells (k-(g+n))) (amK (yT iX) _) (0,0) Qm
    {W with drawn:=W.drawn+1,heap:=W.heap.push (.cells (b.cells.map (bP ρ)++new.map (bP ρ)++Builtin.zeroCells z.cells (k-(g+n))) e)}
    (by simp only;rw[show(h.fB i).n=h.n from rfl,j5 λv aE=>(vn (eY.AJ ρ h.n W.heap.size ((b.cells++new).size+(Builtin.zeroCells z.cells (k-(g+n))).size)) v (X v aE)),Uk]) rfl rfl rfl
   refine⟨_,_,?_,VD,ez,N.trans bB⟩;have R:(ρ.add h.n W.heap.size ((b.cells++new).size+(Builtin.zeroCells z.cells (k-(g+n))).size)).cap h.n=k*s.size:=by
    simp only[eY.add,kB,Array.size_append,D,S,amL,QX];rw[<-DT,<-DT];congr 1;omega
   simp only[execOp,aH,resolve,invoke,builtin,gG,hQ,hj,so,gg,oH,M,g2,L];simp only[qJ,JI,show(h.fB i).n=h.n from rfl];simp only[fJ,R,yF];rw[Nat.mul_div_cancel _ Y];simp[eY.add]
end
section
variable{o:Oper}{ev:Operand->Value}
def xM(ev:Operand->Value)(x:Option Operand)(d n:Nat):Prop:=match x with
 | none=>n=d
 | some y=>∃k,ev y=.int k n
def amO{ev a ρ x d n y code}(I:xM ev x d n)(he:∀z∈x.toArray,a z=bP ρ (ev z))(ak:n<=y)W:
 (match(x.map a) with|some v=>Instr.sliceBound v y code|none=>Pure.pure d:Sem Nat).run P W=.ok n W:=by
 cases x with
 | none=>simp only[xM] at I;subst I;rfl
 | some z =>
  have⟨k,aj⟩:=I;have:=he z aF;rw[aj,Eb] at this;simp only[iW,this,Instr.sliceBound,asIntOf,gG,hQ,hj];rw[au U];simp
def We{ev b ρ c ag isS a cap l d}(i:xM ev c 0 l)(g:xM ev ag a d)(k:∀z∈c.toArray,b z=bP ρ (ev z))(m:∀z∈ag.toArray,b z=bP ρ (ev z))(J:l<=d)(j:d<=cap)W:(Instr.sliceBounds isS a cap (c.map b) (ag.map b) none).run P W=.ok (l,d,cap) W:=by
 have f:=amO (P:=P) (code:=if isS then .sliceAcap else .sliceAlen) g m j W;have e:=amO (P:=P) (code:=.sliceB) i k J W;cases c<;>cases ag<;>simp only[Mc,iW] at f e<;>simp[Instr.sliceBounds,f,e]<;>simp_all
def bE.Wf{x t e g bL ag a c cap l d}(aH:o.op=.slice t x bL ag none)(aS:P.underlying t=some (.slice e))(q:P.info? e=some g)(aa:ev x=.slice (some a) c cap)(r:xM ev bL 0 l)(j:xM ev ag c d)(J:l<=d)(s:d<=cap)(aB:cap<nw):
 bE P o ev h (.slice (some (if cap=l then a else a.add (l*g.size))) (d-l) (cap-l)) h :=
 .still (λI=>by
  have J:=I x ij;rw[aa,vr] at J;rw[vr];split
  .exact J
  .rwa[xK]) λρ W v _ he=>by
  have f:=he x ij;rw[aa,qJ] at f;have k:jv ρ a cap=cap:=by unfold jv;rw[au aB]
  rw[k] at f;have I:=We (P:=P) (isS:=true) r j (λz u=>he z U9) (λz u=>he z Va) J s W;have m:∀b:Addr,jv ρ b (cap-l)=cap-l:=alF;simp only[execOp,aH,Instr.sliceAt,gG,kT aS,hj,Instr.slice,f,Mc,I,sJ q,hQ,qJ,m];by_cases i:cap=l
  .simp[i]
  .simp[i,Cm]
def bE.azp{x t e c bL ag a b d l i}(aH:o.op=.slice t x bL ag none)(aS:P.underlying t=some (.slice e))(s:P.info? e=some c)(u:0<c.size)(aa:ev x=.slice (some a) d (dF c.size))(v:xM ev bL 0 l)(r:xM ev ag d i)(J:l<=i)(hw:df<=a.block)(I:h.m a.block=some b)(y:a.off+i*c.size<=b.cells.size)(j:l=0\/a.off+(l+1)*c.size<=b.cells.size):
 bE P o ev h (.slice (some (a.add (l*c.size))) (i-l) (dF c.size)) h :=
 .still (λI=>by
  have J:=I x ij;rw[aa,vr] at J;rwa[vr,xK]) λρ W C A he=>by
  have q:=he x ij;rw[aa,qJ,JI] at q;have D:=(A.fa _ _ I).acj hw;have f:∀k,a.off+k*c.size<=b.cells.size->k<=(ρ.cap a.block-a.off)/c.size:=by
   intro k aj;rw[Up u];omega
  have I:=We (P:=P) (isS:=true) v r (λz B=>he z U9) (λz B=>he z Va) J (f i y) W;simp only[execOp,aH,Instr.sliceAt,gG,kT aS,hj,Instr.slice,q,Mc,I,sJ s,hQ,qJ,JI];have w:(a.add (l*c.size)).off=a.off+l*c.size:=Qc;rw[xK,w];have g:(ρ.cap a.block-(a.off+l*c.size))/c.size=(ρ.cap a.block-a.off)/c.size-l:=by
   rw[<-Nat.sub_sub,IW l,Nat.sub_mul_div]
  rw[g];rcases j with rfl|j
  .simp[Addr.add]
  .have:=f (l+1) j;rw[ai U];simp[Cm]
def bE.MN{x t e f bL ag}(aH:o.op=.slice t x bL ag none)(aS:P.underlying t=some (.slice e))(c:P.info? e=some f)(aa:ev x=.slice none 0 0)(d:xM ev bL 0 0)(b:xM ev ag 0 0):bE P o ev h (.slice none 0 0) h :=
 .still (λ_=>aF) λρ W i _ he=>by
  have a:=he x ij;rw[aa,V4] at a;simp[execOp,aH,Instr.sliceAt,kT aS,Instr.slice,a,We (P:=P) (isS:=true) d b (λz g=>he z U9) (λz g=>he z Va) (b4 _) (b4 _) W,sJ c]
def bE.call{xN xs ts f fn first captured v aw}(aH:o.op=.call { callee:=.value xN,args:=xs,argTypes:=ts })(oQ:ev xN=.func (.func f) first captured)(s: P.funcs[f]? = some fn)(c: (fn.name == "runtime.NumGoroutine") = false)(b: fn.body.isNone = false)(aS: bc P f ((first ++ xs.map ev) ++ captured) h v aw): bE P o ev h v aw := by
 intro g ρ W t A K Q j q
 have i:=j xN wj
 rw[oQ,MI] at i
 have l:xs.map A.eval=(xs.map ev).map (bP ρ):=by
  rw[Gw]
  exact j5 λx aa=>j x (by simp[aH,Op.operands,Call.operands,aa])
 have a:=g xN wj
 rw[oQ,JB] at a
 have I:∀x∈(first++xs.map ev)++captured,bw h.n x:=by
  intro x aa
  rcases I1.1 aa with J|J
  .rcases I1.1 J with d|d
   .exact a.1 x d
   .obtain⟨y,u,rfl⟩:=Uo.1 d
    exact g y (by simp[aH,Op.operands,Call.operands,u])
  .exact a.2 x J
 have k:(execOp A.eval o).run P W=.ok (.enter f (((first++xs.map ev)++captured).map (bP ρ))) W:=by
  simp only[execOp,aH,resolve,i,Deferred.ofValue,invoke,callFunc,gG,hQ,hj,run_program,s,c,b,l]
  simp
 unfold Oper.wp
 rw[k]
 refine Calls.mono (aS I ρ W t) ?_
 rintro e W' ⟨ρ',rfl,aE,m,r⟩
 exact q ρ' W' aE m r
end
section
variable{o:Oper}{ev:Operand->Value}
def isEq:BinOp->Option Bool
 | .eql=>some true
 | .neq=>some false
 | _=>none
def amP{op t x y a b}(c:(match a,b with|.nilIface,.nilIface=>false|.agg _,.agg _=>false|_,_=>true)=true)W:(eqGuard op t x y a b).run P W=.ok () W:=by
 cases op<;>first|rfl|(cases a<;>cases b<;>first|rfl|cases c)
def azs{t e}(aS:P.underlying t=some (.pointer e))A W:(Op.equal t (.pointer A) (.pointer none)).run P W=.ok A.isNone W:=by
 show(Op.equalIn (9999+1) t (.pointer A) (.pointer none)).run P W=_;rw[Op.equalIn,gG,kT aS];cases A<;>rfl
def bE.Wg{op t e d x y q A}(aH:o.op=.binOp op t x y d)(dC:isEq op=some q)(aS:P.underlying t=some (.pointer e))(aa:ev x=.pointer A)(f:ev y=.pointer none):
 bE P o ev h (.bool (A.isNone==q)) h :=
 .still (λ_=>aF) λρ W c _ he=>by
  have b:=he y ij;have a:c x=.pointer (A.map (fJ ρ)):=by rw[he x ij,aa];cases A<;>simp
  rw[f,ayT] at b;cases op<;>simp only[isEq,dh,reduceCtorEq] at dC<;>subst dC <;>
   simp only[execOp,aH,a,b,gG,amP,binOp,azs (P:=P) aS (A.map (fJ ρ)) W,hj,hQ,amu,Option.isNone_map]<;>cases A<;>rfl
def azt(a:List Int):∀(s:ByteArray),a.foldl (λr n=>r.push (UInt8.ofNat n.toNat)) s=⟨s.data++(a.map λn=>UInt8.ofNat n.toNat).toArray⟩:=by
 induction a with
 | nil=>intro s;simp
 | cons n a b =>
  intro s;rw[At,b];simp[ByteArray.push]
def bE.azu{x src dst e a c cap b}{d:List Int}(aH:o.op=.convert src dst x)(aC:P.underlying src=some (.slice e))(l:P.underlying dst=some .string)(f:P.underlying e=some (.int .u8))(aa:ev x=.slice (some a) c cap)(r:a.spot=none)(I:h.m a.block=some b)(ak:a.off+c<=b.cells.size)(g:b.cells.extract a.off (a.off+c)=(d.map λn=>Value.int .u8 n).toArray):
 bE P o ev h (.string ⟨(d.map λn=>UInt8.ofNat n.toNat).toArray⟩) h :=
 .still (λ_=>aF) λρ W s q he=>by
  have i:=he x ij;rw[aa,qJ] at i;have j:=QR (P:=P) q I r ak;rw[g] at j;have k:(loadCells (fJ ρ a) c).run P W=.ok (d.map (Value.int .u8)).toArray W:=by
   rw[j];congr 1;simp
  have aM:=run_bytesToString W (fJ ρ a) c (jv ρ a cap) d k;rw[azt] at aM;simp only[execOp,aH,convert,gG,kT aC,kT l,kT f,hj,i,aM,hQ,amv];simp
end
def azw ρ an a j:yielded an (eU ρ a).tmps j=yielded an a.tmps j:=by
 unfold yielded eU;cases J:(an[j]?).bind (·.dst) with
 | none=>simp
 | some t =>
  simp only[tm,IY];cases b:a.tmps[t]? with
  | none=>simp
  | some v =>
   simp only[iW];cases v with
   | pointer a=>cases a<;>simp
   | slice a l c=>cases a<;>simp
   | map a=>cases a<;>simp
   | chan a=>cases a with
    | none=>rw[bP]<;>simp
    | some r=>rw[bP]
   | _=>simp
def Wh ρ an a o:Region.wanted o (yielded an (eU ρ a).tmps)=Region.wanted o (yielded an a.tmps):=by
 unfold Region.wanted;cases o.guard with
 | none=>rfl
 | some g=>simp only[azw]
inductive tw(P:Program)(an:Array Oper):List Nat->Act->aV->Act->aV->Prop
 | nil (a:Act) (h:aV):tw P an [] a h a h
 | run {i:Nat}{l:List Nat}{o:Oper}{a b6:Act}{h J aw:aV}{v:Value} (aH:an[i]?=some o) (hw:Region.wanted o (yielded an a.tmps)=true) (aj:∀x∈o.op.operands,rF P.globals.size x)
  (aa:bE P o a.eval h v J) (aM:tw P an l (a.put o.dst v) J b6 aw):tw P an (i::l) a h b6 aw
 | skip {i:Nat}{l:List Nat}{o:Oper}{a b6:Act}{h aw:aV} (aH:an[i]?=some o) (hw:Region.wanted o (yielded an a.tmps)=false) (aM:tw P an l (a.put o.dst undef) h b6 aw):tw P an (i::l) a h b6 aw
 | defer {i:Nat}{l:List Nat}{o:Oper}{a b6:Act}{h aw:aV}{xN:Operand}{xs:Array Operand}{ts:Array TypeId}{f:FuncId}{first captured:Array Value} (aH:an[i]?=some o) (hw:Region.wanted o (yielded an a.tmps)=true) (aj:∀x∈o.op.operands,rF P.globals.size x)
  (dC:o.op=.defer {callee:=.value xN,args:=xs,argTypes:=ts}) (oQ:a.eval xN=.func (.func f) first captured)
  (aM:tw P an l ({a with defers:={target:=.fn (.func f) captured,args:=first++xs.map a.eval}::a.defers}.put o.dst undef) h b6 aw):tw P an (i::l) a h b6 aw
def tw.wp{an l a b6 h aw}(aM:tw P an l a h b6 aw):gI h.n a->∀(ρ:eY) (W:World),db P.globals.size h ρ W->∀(Q:Exit->Act->World->Prop),
 (∀ρ' W',gI aw.n b6->db P.globals.size aw ρ' W'->Ext h aw ρ ρ' W W'->Q .normal (eU ρ' b6) W')->wpOps P an Q l (eU ρ a) W:=by
 induction aM with
 | nil a h=>exact λI ρ W b Q e=>e ρ W I b (Ext.refl _ _ _)
 | @run i l o a b6 h J aw v aH hw aj aa aM aP =>
  intro I ρ W b Q e;rw[wpOps,aH];simp only[Wh,hw,kB];left;refine aa (λx j=>AG b.kF I x (aj x j)) ρ W b (eU ρ a) _ Q (λx j=>y4 b.fu a x (aj x j)) ?_;intro g s aE u q;have k:gI J.n (a.put o.dst v):=qL (Ee q.mono I) _ aE;have he:(eU ρ a).put o.dst (bP g v)=eU g (a.put o.dst v):=by rw[MK,acn q.hU I]
  rw[he];exact aP k g s u Q λρ' W' D C F=>e ρ' W' D C (q.trans F)
 | @skip i l o a b6 h aw aH hw aM aP =>
  intro I ρ W b Q e;rw[wpOps,aH];simp only[Wh,hw];have he:(eU ρ a).put o.dst undef=eU ρ (a.put o.dst undef):=by rw[MK,acf]
  rw[ai aF,he];exact aP (qL I _ aF) ρ W b Q e
 | @defer i l o a b6 h aw xN xs ts f first captured aH hw aj dC oQ aM aP =>
  intro I ρ W b Q e;rw[wpOps,aH];simp only[Wh,hw,kB];left;have B:(eU ρ a).eval xN=.func (.func f) (first.map (bP ρ)) (captured.map (bP ρ)):=by
   rw[y4 b.fu a xN (aj xN alj),oQ,MI]
  have A:xs.map (eU ρ a).eval=(xs.map a.eval).map (bP ρ):=by
   rw[Gw];exact j5 λx aa=>y4 b.fu a x (aj x (by simp[dC,Op.operands,Call.operands,aa]))
  have z:(execOp (eU ρ a).eval o).run P W=.ok (.defer (G5 ρ {target:=.fn (.func f) captured,args:=first++xs.map a.eval})) W:=by
   simp only[execOp,dC,resolve,B,A,Deferred.ofValue,gG,hQ,hj,G5,ack,Uk]
  unfold Oper.wp;rw[z];have m:=AG b.kF I xN (aj xN alj);rw[oQ,JB] at m;have w:JE h.n {target:=.fn (.func f) captured,args:=first++xs.map a.eval}:=by
   refine⟨m.2,λv aE=>?_⟩;rcases I1.1 aE with J|J
   .exact m.1 v J
   .obtain⟨y,E,rfl⟩:=Uo.1 J;exact AG b.kF I y (aj y (by simp[dC,Op.operands,Call.operands,E]))
  have k:gI h.n {a with defers:={target:=.fn (.func f) captured,args:=first++xs.map a.eval}::a.defers}:=by
   refine⟨I.1,λd aq=>?_⟩;rcases dI.1 aq with rfl|aq
   .exact w
   .exact I.2 d aq
  have:=aP (qL k o.dst aF) ρ W b Q e;rw[MK,acf] at this;exact dm
def tw.region{id an a b6 h aw}(aM:tw P an (List.range an.size) a h b6 aw):iO P (.region id an false) a h .normal b6 aw:=by
 refine λI ρ W e=>wp_region (aM.wp I ρ W e _ ?_);exact λρ' W' c b d=>⟨rfl,ρ',rfl,c,b,d⟩
def uI(fn:Func)(args:Array Value):Act:={tmps:=args++Array.replicate (fn.ntmps-args.size) undef,defers:=[]}
def amR ρ fn args:eU ρ (uI fn args)={tmps:=(args.map (bP ρ))++Array.replicate (fn.ntmps-(args.map (bP ρ)).size) undef,defers:=[]}:=by
 simp[uI,eU]
def MC{n fn args}(a:∀x∈args,bw n x):gI n (uI fn args):=by
 refine⟨λv aE=>?_,by simp[uI]⟩;rcases I1.1 aE with J|J
 .exact a v J
 .rw[(Array.mem_replicate.1 J).2];simp
def amS(P:Program)(fn:Func)(a:Act)(h:aV)(v:Value):Prop :=
 ∀ρ W,db P.globals.size h ρ W->(results fn (eU ρ a).tmps).run P W=.ok (bP ρ v) W
def bc.intro{f fn c args h aw b6 v e}(d:P.funcs[f]?=some fn)(I:fn.body=some c)(he:e=.ret\/e=.normal)(aB:iO P c (uI fn args) h e b6 aw)(g:b6.defers=[])(aE:gI aw.n b6->(∀i b,aw.m i=some b->∀v∈b.cells,bw aw.n v)->bw aw.n v)(aM:amS P fn b6 aw v):bc P f args h v aw:=by
 refine λa ρ W j=>calls_of_wp d I ?_;rw[<-amR];refine wp_mono (aB (MC a) ρ W j) ?_;rintro k A W' ⟨rfl,ρ',rfl,da,ez,bB⟩;have:(eU ρ' b6).defers=[]:=by simp[eU,g]
 rcases he with rfl|rfl
 .exact alT
 .exact alT
def e0(D:Nat->Prop):Value->Prop
 | .pointer (some a)=>D a.block
 | .slice (some a) _ _=>D a.block
 | .map (some r)=>D r
 | .chan (some r)=>D r
 | .func _ f c=>(∀v,(h:v∈f)->e0 D v)/\(∀v,(h:v∈c)->e0 D v)
 | .iface _ v=>e0 D v
 | .agg cs=>∀v,(h:v∈cs)->e0 D v
 | .tuple cs=>∀v,(h:v∈cs)->e0 D v
 | _=>True
def amT{D ρ ρ'}(h:∀i,D i->ρ'.bJ i=ρ.bJ i/\ρ'.cap i=ρ.cap i/\ρ'.fO i=ρ.fO i):∀v,e0 D v->bP ρ' v=bP ρ v:=by
 intro v;induction v using bP.induct with
 | case1 a=>intro I;rw[e0] at I;simp[fJ,(h _ I).1,(h _ I).2.2]
 | case2 a l c=>intro I;rw[e0] at I;simp[fJ,jv,(h _ I).1,(h _ I).2.1,(h _ I).2.2]
 | case3 r=>intro I;rw[e0] at I;simp[(h _ I).1]
 | case4 r=>intro I;rw[e0] at I;rw[bP,bP,(h _ I).1]
 | case5 fn f c yM wo =>
  intro I;rw[e0] at I;simp only[MI];congr 1
  .exact U7
  .exact U6
 | case6 t v aP=>intro I;rw[e0] at I;simp[aP I]
 | case7 cs aP=>intro I;rw[e0] at I;simp only[QK];congr 1;exact GK
 | case8 cs aP=>intro I;rw[e0] at I;simp only[MH];congr 1;exact GK
 | case9 v=>intro _;rw[bP,bP]<;>simp_all
def AE{D n}(h:∀i,i<n->D i):∀v,bw n v->e0 D v:=by
 intro v;induction v using bw.induct with
 | case1 a=>simp only[Ed];intro I;rw[e0];exact h _ I
 | case2 a l c=>simp only[vr];intro I;rw[e0];exact h _ I
 | case3 r=>simp only[amx];intro I;rw[e0];exact h _ I
 | case4 r=>intro I;rw[bw] at I;rw[e0];exact h _ I
 | case5 fn f c yM wo=>simp only[JB];intro I;rw[e0];exact⟨λv aE=>yM v aE (I.1 v aE),λv aE=>wo v aE (I.2 v aE)⟩
 | case6 t v aP=>simp only[V5];intro I;rw[e0];exact aP I
 | case7 cs aP=>simp only[qK];intro I;rw[e0];exact λv aE=>aP v aE (I v aE)
 | case8 cs aP=>simp only[y2];intro I;rw[e0];exact λv aE=>aP v aE (I v aE)
 | case9 v=>intro _;rw[e0]<;>simp_all
def aV.eO(h:aV)(s:Nat->Bool):aV:={h with m:=λi=>if s i then none else h.m i}
def ly{h:aV}{s i b}:(h.eO s).m i=some b↔s i=false/\h.m i=some b:=by
 unfold aV.eO;cases aC:s i<;>simp[aC]
def db.eO{G h ρ W}(aH:db G h ρ W)s:db G (h.eO s) ρ W :=
 ⟨λi b I=>aH.fa i b (ly.1 I).2,λi b I=>aH.lt i b (ly.1 I).2,λi j b c ag I aB=>aH.inj i j b c ag (ly.1 I).2 (ly.1 aB).2,λi b I=>aH.dP i b (ly.1 I).2,aH.fu,aH.kk,aH.nx⟩
def db.azx{G h aw ρ ρ' W W' s}(aH:db G h ρ W)(r:db G (aw.eO s) ρ' W')(e:Ext (h.eO s) (aw.eO s) ρ ρ' W W')(aC:∀i,s i=true->aw.m i=h.m i):
 db G aw ρ' W'/\Ext h aw ρ ρ' W W':=by
 have q:xI h.n ρ ρ':=e.hU;have H:h.n<=aw.n:=e.mono;have E:∀i b,s i=true->h.m i=some b->W'.heap[ρ.bJ i]?=W.heap[ρ.bJ i]?:=by
  refine λi b mX I=>e.l8 _ (aH.fa i b I).lt λk c u aj he=>?_;have⟨x,A⟩:=ly.1 aj;have:=aH.inj _ _ _ _ u A I he;subst this;rw[mX] at x;cases x
 refine⟨⟨λi b I=>?_,λi b I=>?_,λi j b c g I aB f=>?_,λi b I v aE=>?_,r.fu,r.kk,r.nx⟩,⟨q,H,λc aB ak=>e.l8 c aB λi b g I=>ak i b g (ly.1 I).2,e.size,λi b g I f=>?_,e.tape,e.os,e.output,λi b t I=>?_⟩⟩
 .cases mX:s i with
  | false=>exact r.fa i b (ly.2 ⟨mX,I⟩)
  | true =>
   have a:h.m i=some b:=Jn;have t:=aH.lt _ _ a;rw[(q i t).1,E i b mX a];exact(aH.fa i b a).hU q t (aH.dP _ _ a)
 .cases mX:s i with
  | false=>exact r.lt i b (ly.2 ⟨mX,I⟩)
  | true =>
   have a:h.m i=some b:=Jn;have:=aH.lt _ _ a;omega
 .have w:∀i j b c,df<=j\/df<=i->s i=true->s j=false->aw.m i=some b->aw.m j=some c->ρ'.bJ i=ρ'.bJ j->False:=by
   intro i j b c B mX l I aB f;have a:h.m i=some b:=Jn;have t:=aH.lt _ _ a;have y:=(q i t).1;by_cases C:df<=j
   .have⟨k,d,u,aj,z⟩:=e.fC j c C (ly.2 ⟨l,aB⟩) (by rw[<-f,y];exact(aH.fa i b a).lt);have⟨x,A⟩:=ly.1 aj;have:=aH.inj _ _ _ _ u A a (by rw[z,<-f,y]);subst this;rw[mX] at x;cases x
   .have D:j<h.n:=by have:=aH.kk;omega
    have⟨d,K,_⟩:=e.pq j c D (ly.2 ⟨l,aB⟩);have:=aH.inj _ _ _ _ (B.resolve_left C) a (ly.1 K).2 (by rw[<-y,f,(q j D).1]);subst this;rw[mX] at l;cases l
  cases mX:s i<;>cases l:s j
  .exact r.inj _ _ _ _ g (ly.2 ⟨mX,I⟩) (ly.2 ⟨l,aB⟩) f
  .exact(w j i c b (.inl g) l mX aB I f.symm).elim
  .exact(w i j b c (.inr g) mX l I aB f).elim
  .have a:h.m i=some b:=Jn;have F:h.m j=some c:=by rwa[<-aC j l]
   rw[(q i (aH.lt _ _ a)).1,(q j (aH.lt _ _ F)).1] at f;exact aH.inj _ _ _ _ g a F f
 .cases mX:s i with
  | false=>exact r.dP i b (ly.2 ⟨mX,I⟩) v aE
  | true =>
   have a:h.m i=some b:=Jn;exact hc H v (aH.dP _ _ a v aE)
 .cases mX:s i with
  | false =>
   have⟨k,c,u,aj,z⟩:=e.fC i b g (ly.2 ⟨mX,I⟩) f;exact⟨k,c,u,(ly.1 aj).2,z⟩
  | true =>
   have a:h.m i=some b:=Jn;exact⟨i,b,g,a,((q i (aH.lt _ _ a)).1).symm⟩
 .cases mX:s i with
  | false =>
   have⟨c,aB,J,L⟩:=e.pq i b t (ly.2 ⟨mX,I⟩);exact⟨c,(ly.1 aB).2,J,L⟩
  | true =>
   have a:h.m i=some b:=Jn;rw[E i b mX a];exact⟨b,a,b4 _,.refl _ _⟩
def bE.frame{o ev h aw v}s(aS:bE P o ev (h.eO s) v (aw.eO s))(aC:∀i,s i=true->aw.m i=h.m i):bE P o ev h v aw:=by
 refine λI ρ W a A K Q d c=>aS I ρ W (a.eO s) A K Q d λρ' W' aE b e=>?_;have⟨J,f⟩:=a.azx b e aC;exact c ρ' W' aE J f
def Wi{o:Oper}{A W K}(h:o.wp P A W K (λ_ _ _=>False)):∃dz W',K dz W':=by
 unfold Oper.wp at h;generalize(execOp A.eval o).run P W=r at h;cases r with
 | ok n w' =>
  cases n<;>simp only[Oper.upon] at h;case enter f args =>
   have⟨e,azy,dU,bA,_⟩:=h [];cases e with
   | returned v=>exact⟨_,_,bA⟩
   | panicked c=>exact bA.elim
   | outgrown=>have⟨_,_,ar⟩:=bA;exact ar.elim
  case row r args =>
   have⟨v,azy,bA,_⟩:=h default [];exact⟨_,_,bA⟩
  all_goals first|exact⟨_,_,h⟩|exact h.elim
 | halt x w'=>cases x<;>simp only[Oper.upon] at h
def kn(p:Nat->Bool):Nat->Option Nat
 | 0=>none
 | k+1=>if p k then some k else kn p k
def MO{p q}:∀n,(∀i,i<n->p i=q i)->kn p n=kn q n:=by
 intro n;induction n with
 | zero=>intro _;rfl
 | succ n a=>intro h;rw[kn,kn,h n U,a λi ag=>h i U]
def amU{p j}:∀n,j<=n->kn (λi=>decide (i<j)&&p i) n=kn p j:=by
 intro n;induction n with
 | zero =>
  intro h; have : j = 0 := by omega
  subst this;rfl
 | succ n a =>
  intro h;by_cases b:j=n+1
  .subst b;exact MO _ λi ag=>Mt
  .rw[kn,ai jf,a U]
def azz{p j}:∀n,j<n->p j=true->(∀k,j<k->k<n->p k=false)->kn p n=some j:=by
 intro n;induction n with
 | zero=>intro h;omega
 | succ n a =>
  intro h bh aj;by_cases b:j=n
  .subst b;rw[kn,au bh]
  .rw[kn,ai (by rw[aj n U U];simp),a U bh λk J c=>aj k J U]
def Wj{p j}:∀n,kn p n=some j->j<n/\p j=true:=by
 intro n;induction n with
 | zero=>intro h;cases h
 | succ n a =>
  intro h;rw[kn] at h;split at h
  .injection h with h;subst h;rename_i bh;exact⟨U,bh⟩
  .have:=a h;exact⟨U,this.2⟩
def uJ(an:Array Oper)(j i:Nat):Prop:=∃o,an[j]?=some o/\∃e∈o.after,Region.binds .any e=true/\e.on=i
inductive qO(an:Array Oper):Nat->Nat->Prop
 | one {j i:Nat} (h:uJ an j i):qO an j i
 | ik {j k i:Nat} (h:uJ an j k) (aw:qO an k i):qO an j i
def sM(an:Array Oper)(i j:Nat):Prop:=i≠j/\¬qO an j i/\¬qO an i j
def sM.symm{an i j}(h:sM an i j):sM an j i:=⟨h.1.symm,h.2.2,h.2.1⟩
def qP(an:Array Oper)(i:Nat):Option Tmp:=(an[i]?).bind (·.dst)
structure rH where
 a:Nat->Act
 h:Nat->aV
 v:Nat->Value
 hid:Nat->Nat->Bool
 fU:Nat->Nat->Bool
def xP(h:aV)(b c:Nat)(v:Value):Prop:=b<h.n/\∃B,h.m b=some B/\B.cells[c]?=some v
structure rH.ji(P:Program)(an:Array Oper)(p:rH):Prop where
 ko:∀j i,uJ an j i->i<j
 step:∀j o,an[j]?=some o ->
  (Region.wanted o (yielded an (p.a j).tmps)=false/\p.v j=undef/\p.h (j+1)=p.h j)\/
  (Region.wanted o (yielded an (p.a j).tmps)=true/\(∀x∈o.op.operands,rF P.globals.size x)/\bE P o (p.a j).eval ((p.h j).eO (p.hid j)) (p.v j) ((p.h (j+1)).eO (p.hid j)))\/
  (Region.wanted o (yielded an (p.a j).tmps)=true/\(∀x∈o.op.operands,rF P.globals.size x)/\p.h (j+1)=p.h j/\(∀id,p.fU j id=false)/\∃b c,(∀i,i<j->sM an i j->p.fU i b=false)/\
   (∀i,i<an.size->j<i->sM an i j->p.fU i b=true->xP (p.h (i+1)) b c (p.v j))/\xP (p.h j) b c (p.v j)/\∀H,xP H b c (p.v j)->bE P o (p.a j).eval H (p.v j) H)
 put:∀j o,an[j]?=some o->p.a (j+1)=(p.a j).put o.dst (p.v j)
 mono:∀j,j<an.size->(p.h j).n<=(p.h (j+1)).n
 fresh:∀j,j<an.size->∀id,id<(p.h j).n->(p.h j).m id=none->(p.h (j+1)).m id=none
 Cr:∀j,j<an.size->∀id,p.fU j id=false->(p.h (j+1)).m id=(p.h j).m id
 AL:∀j,j<an.size->∀id,p.fU j id=true->p.hid j id=false
 JO:∀i j,i<an.size->j<an.size->sM an i j->∀id,p.fU i id=true->p.hid j id=true
 bZ:∀i j QZ t,an[j]?=some QZ->i<an.size->sM an i j->qP an i=some t->(∀x∈QZ.op.operands,x≠.tmp t)/\QZ.dst≠some t/\∀g w,QZ.guard=some (g,w)->qP an g≠some t
 rI:∀j k,j<an.size->k<an.size->sM an j k->e0 (λid=>¬((p.h j).n<=id/\id<(p.h (j+1)).n)) (p.v k)/\
  ∀id b,p.fU k id=true->(p.h (k+1)).m id=some b->∀v∈b.cells,e0 (λid=>¬((p.h j).n<=id/\id<(p.h (j+1)).n)) v
variable{an:Array Oper}{p:rH}
def qO.lt(I:∀j i,uJ an j i->i<j){j i}(h:qO an j i):i<j:=by
 induction h with
 | one h=>exact I _ _ h
 | ik h _ aP=>have:=I _ _ h;omega
def rH.ji.xQ(a:p.ji P an):∀k j,j<=k->k<=an.size->(p.h j).n<=(p.h k).n:=by
 intro k;induction k with
 | zero =>
  intro j c _; have : j = 0 := by omega
  subst this;exact xE
 | succ k b =>
  intro j c aj;by_cases h:j=k+1
  .subst h;exact xE
  .exact bx (b j U U) (a.mono k U)
def rH.ji.text(ok:p.ji P an){ρ W}(I:gI (p.h 0).n (p.a 0))(aH:db P.globals.size (p.h 0) ρ W):
 ∀j,j<=an.size->(∃ρ W,db P.globals.size (p.h j) ρ W)/\gI (p.h j).n (p.a j)/\∀i,i<j->bw (p.h (i+1)).n (p.v i):=by
 intro j;induction j with
 | zero=>exact λ_=>⟨⟨ρ,W,aH⟩,I,λi ag=>U⟩
 | succ j B =>
  intro C;have⟨⟨k,u,g⟩,q,w⟩:=B U;have s:an[j]?=some an[j]:=sn U;rcases ok.step j _ s with⟨_,aE,t⟩|⟨hw,aj,aS⟩|⟨hw,aj,t,_,b,c,_,_,z,aS⟩
  .rw[ok.put j _ s,aE,t];refine⟨⟨k,u,g⟩,qL q _ aF,λi ag=>?_⟩;by_cases l:i=j
   .subst l;rw[aE];simp
   .exact w i U
  .have y:=aS.frame (p.hid j) (λid m=>by
    cases he:p.fU j id with
    | false=>exact ok.Cr j U id he
    | true=>rw[ok.AL j U id he] at m;cases m)
   have:=Wi (y (λx aa=>AG g.kF q x (aj x aa)) k u g (eU k (p.a j)) (λ_ W'=>∃ρ',bw (p.h (j+1)).n (p.v j)/\db P.globals.size (p.h (j+1)) ρ' W') (λ_ _ _=>False)
    (λx aa=>y4 g.fu _ x (aj x aa)) λρ' W' aE d _=>⟨ρ',aE,d⟩)
   have⟨_,W',ρ',aE,d⟩:=this;rw[ok.put j _ s];refine⟨⟨ρ',W',d⟩,qL (Ee (ok.mono j U) q) _ aE,λi ag=>?_⟩;by_cases l:i=j
   .subst l;exact aE
   .exact w i U
  .have:=Wi (aS _ z (λx aa=>AG g.kF q x (aj x aa)) k u g (eU k (p.a j)) (λ_ W'=>∃ρ',bw (p.h j).n (p.v j)/\db P.globals.size (p.h j) ρ' W') (λ_ _ _=>False)
    (λx aa=>y4 g.fu _ x (aj x aa)) λρ' W' aE d _=>⟨ρ',aE,d⟩)
   have⟨_,W',ρ',aE,d⟩:=this;rw[ok.put j _ s,t];refine⟨⟨ρ',W',d⟩,qL q _ aE,λi ag=>?_⟩;by_cases l:i=j
   .subst l;rwa[t]
   .exact w i U
def iE(an:Array Oper)(p:rH)(S:Nat->Bool):aV :=
 {m:=λid=>match kn (λi=>S i&&p.fU i id) an.size with|some i=>(p.h (i+1)).m id|none=>(p.h 0).m id,n:=(p.h an.size).n}
def xR(an:Array Oper)(p:rH)(S:Nat->Bool)(t:Nat):Value :=
 match kn (λi=>S i&&qP an i==some t) an.size with|some i=>p.v i|none=>(p.a 0).tmps.getD t undef
def ny(an:Array Oper)(p:rH)(S:Nat->Bool):Act:={tmps:=(Array.range (p.a 0).tmps.size).map (xR an p S),defers:=(p.a 0).defers}
def rH.ji.acy(a:p.ji P an)(id:Nat):∀j,j<=an.size->(p.h j).m id=match kn (λi=>p.fU i id) j with|some i=>(p.h (i+1)).m id|none=>(p.h 0).m id:=by
 intro j;induction j with
 | zero=>intro _;rfl
 | succ j b =>
  intro c;rw[kn];cases he:p.fU j id with
  | true=>simp
  | false=>simp only[nN,jE];rw[a.Cr j U id he];exact b U
def azA(a:Act)d v:(a.put d v).tmps.size=a.tmps.size:=by cases d<;>simp[Act.put]
def amV(a:Act)d v(t:Nat):(a.put d v).tmps[t]?=if d=some t/\t<a.tmps.size then some v else a.tmps[t]?:=by
 cases d with
 | none=>simp[Act.put]
 | some d =>
  simp only[Act.put,PT,dh];by_cases b:d=t
  .subst b;by_cases c:d<a.tmps.size
   .simp[c]
   .simp[c]
  .simp[b]
def rH.ji.acz(b:p.ji P an):∀j,j<=an.size->(p.a j).tmps.size=(p.a 0).tmps.size/\(p.a j).defers=(p.a 0).defers:=by
 intro j;induction j with
 | zero=>exact λ_=>⟨rfl,rfl⟩
 | succ j c =>
  intro d;have:=c U;rw[b.put j _ (sn U),azA];refine⟨this.1,?_⟩;rw[<-this.2];cases an[j].dst<;>rfl
def rH.ji.amW(c:p.ji P an)(t:Nat)(aS:t<(p.a 0).tmps.size):∀j,j<=an.size->(p.a j).tmps[t]?=some (match kn (λi=>qP an i==some t) j with|some i=>p.v i|none=>(p.a 0).tmps.getD t undef):=by
 intro j;induction j with
 | zero=>intro _;simp[kn,wg,sn aS]
 | succ j f =>
  intro g;have b:an[j]?=some an[j]:=sn U;rw[c.put j _ b,amV,kn];have e:qP an j=an[j].dst:=by simp[qP,b]
  rw[e];by_cases h:an[j].dst=some t
  .rw[au ⟨h,by rw[(c.acz j U).1];exact aS⟩,au yY]
  .rw[ai (λd=>h d.1),ai yY];exact f U
def rH.ji.azB(a:p.ji P an)id:∀k j,j<=k->k<=an.size->id<(p.h j).n->(p.h j).m id=none->(p.h k).m id=none:=by
 intro k;induction k with
 | zero =>
  intro j d _ _ h; have : j = 0 := by omega
  subst this;exact h
 | succ k c =>
  intro j d aj ak h;by_cases b:j=k+1
  .subst b;exact h
  .exact a.fresh k U id (eQ ak (a.xQ k j U U)) (c j U U ak h)
structure om(an:Array Oper)(S:Nat->Bool)(j:Nat):Prop where
 lt:j<an.size
 MD:S j=false
 closed:∀k i,S k=true->uJ an k i->S i=true
 acA:∀i,uJ an j i->S i=true
def om.acB{S j}(r:om an S j):∀{k i:Nat},qO an k i->(S k=true\/k=j)->S i=true:=by
 intro k i h;induction h with
 | one h=>rintro(aj|rfl);exact r.closed _ _ aj h;exact r.acA _ h
 | ik h _ aP=>rintro(aj|rfl);exact aP (.inl (r.closed _ _ aj h));exact aP (.inl (r.acA _ h))
def om.km{S j}(I:∀j i,uJ an j i->i<j)(r:om an S j){i}(ag:S i=true)(a:j<i):sM an i j:=by
 exact⟨U,λh=>by have:=h.lt I;omega,λh=>by have:=r.acB h (.inl ag);rw[r.MD] at this;cases this⟩
def om.last{S w j}(I:∀j i,uJ an j i->i<j)(r:om an S j)(hw:∀i,i<an.size->w i=true->¬sM an i j):kn (λi=>S i&&w i) an.size=kn w j:=by
 rw[<-amU an.size (ph r.lt)];refine MO _ λi ag=>?_;cases a:w i with
 | false=>simp
 | true =>
  simp only[Md];by_cases c:i<j
  .simp only[c,decide_true];have d:=hw i ag a;unfold sM at d;have J:qO an j i:=by
    by_cases J:qO an j i
    .exact J
    .by_cases e:qO an i j
     .have:=e.lt I;omega
     .exact absurd ⟨U,J,e⟩ d
   exact r.acB J (.inr rfl)
  .simp only[c,decide_false];cases b:S i with
   | false=>rfl
   | true =>
    by_cases he:i=j
    .subst he;rw[r.MD] at b;cases b
    .exact absurd (r.km I b U) (hw i ag a)
def om.amY{S w:Nat->Bool}{j}(I:∀j i,uJ an j i->i<j)(r:om an S j)(aA:w j=true)(hw:∀i,i<an.size->w i=true->¬sM an i j):kn (λi=>(S i||i==j)&&w i) an.size=some j:=by
 refine azz _ r.lt Ea λk J c=>?_;cases a:w k with
 | false=>simp
 | true =>
  cases b:S k with
  | false=>simp;omega
  | true=>exact absurd (r.km I b J) (hw k c a)
def amZ{S w:Nat->Bool}{j}(a:w j=false):kn (λi=>(S i||i==j)&&w i) an.size=kn (λi=>S i&&w i) an.size:=by
 refine MO _ λi _=>?_;by_cases h:i=j
 .subst h;simp only[a,Uq]
 .have:(i==j)=false:=lM;simp only[this,Ur]
structure Inv(P:Program)(an:Array Oper)(p:rH)(h5:eY)(h6:World)(S:Nat->Bool)(A:Act)(W:World)(ρ:eY):Prop where
 act:A=eU ρ (ny an p S)
 aQ:db P.globals.size (iE an p S) ρ W
 ext:Ext (p.h 0) (iE an p S) h5 ρ h6 W
def rH.ji.Ek(a:p.ji P an){S j}(r:om an S j){id}(b:p.hid j id=false):(iE an p S).m id=(p.h j).m id:=by
 rw[a.acy id j (ph r.lt)];simp only[iE];rw[r.last a.ko λi ag he c=>?_];have:=a.JO i j ag r.lt c id he;rw[b] at this;cases this
def azC{p}:∀n,kn p n=none->∀k,k<n->p k=false:=by
 intro n;induction n with
 | zero=>intro _ k aj;omega
 | succ n a =>
  intro h k aj;rw[kn] at h;split at h
  .exact jh
  .rename_i bh;by_cases e:k=n
   .subst e;simpa using bh
   .exact a h k U
def azD{p j}:∀n,kn p n=some j->∀k,j<k->k<n->p k=false:=by
 intro n;induction n with
 | zero=>intro h;cases h
 | succ n a =>
  intro h k aj ak;rw[kn] at h;split at h
  .injection h with h;omega
  .rename_i bh;by_cases e:k=n
   .subst e;simpa using bh
   .exact a h k aj U
def rH.ji.azE(d:p.ji P an){S j}(r:om an S j){b c v}(J:∀i,i<j->sM an i j->p.fU i b=false)(y:∀i,i<an.size->j<i->sM an i j->p.fU i b=true->xP (p.h (i+1)) b c v)(z:xP (p.h j) b c v):xP (iE an p S) b c v:=by
 have l:∀k,j<k->k<an.size->(S k&&p.fU k b)=true->sM an k j:=λk aj _ he=>by
  simp only[cA] at he;exact r.km d.ko he.1 aj
 have low:(∀k,j<k->k<an.size->(S k&&p.fU k b)=false)->(iE an p S).m b=(p.h j).m b:=by
  intro w;rw[d.acy b j (ph r.lt)];simp only[iE];rw[<-amU an.size (ph r.lt)];rw[MO an.size λi ag=>?_];by_cases a:i<j
  .simp only[a,decide_true,uk];cases he:p.fU i b with
   | false=>simp
   | true =>
    have q:¬sM an i j:=λq=>by have:=J i a q;rw[he] at this;cases this
    have g:qO an j i:=by
     by_cases g:qO an j i
     .exact g
     .by_cases I:qO an i j
      .have:=I.lt d.ko;omega
      .exact absurd ⟨U,g,I⟩ q
    rw[r.acB g (.inr rfl)];rfl
  .simp only[a,decide_false,DU];by_cases e:i=j
   .subst e;rw[r.MD];rfl
   .exact w i U ag
 have ak:∀{k},k<=an.size->(p.h k).n<=(iE an p S).n:=λ{k} aj=>d.xQ an.size k aj (b4 _);have⟨u,B,t,s⟩:=z;cases f:kn (λi=>S i&&p.fU i b) an.size with
 | none =>
  exact⟨eQ u (ak (ph r.lt)),B,(low λk _ aj=>azC _ f k aj).trans t,s⟩
 | some i =>
  have⟨g1,g2⟩:=Wj _ f;by_cases a:j<i
  .have⟨t1,A,t2,t3⟩:=y i g1 a (l i a g1 g2) (by simp only[cA] at g2;exact g2.2);refine⟨eQ t1 (ak g1),A,?_,t3⟩;simp only[iE,f];exact t2
  .exact⟨eQ u (ak (ph r.lt)),B,(low λk aj x=>azD _ f k U x).trans t,s⟩
def rH.ji.acC(b:p.ji P an){S j}(r:om an S j){t:Nat}(d:∀i,i<an.size->sM an i j->qP an i≠some t):(ny an p S).tmps[t]?=(p.a j).tmps[t]?:=by
 by_cases aS:t<(p.a 0).tmps.size
 .rw[b.amW t aS j (ph r.lt)];simp only[ny,IY];rw[sn Jm];simp only[Us,iW,xR];rw[r.last b.ko λi ag he c=>d i ag c D1]
 .rw[Gx (by simp[ny];omega),Gx (by rw[(b.acz j (ph r.lt)).1];omega)]
def qc(S:Nat->Bool)(j:Nat):Nat->Bool:=λi=>S i||i==j
def azF(d:p.ji P an){m g}(q:gI (p.h 0).n (p.a 0))(s:db P.globals.size (p.h 0) m g){S j}(r:om an S j)t:
 e0 (λid=>¬((p.h j).n<=id/\id<(p.h (j+1)).n)) (xR an p S t):=by
 have y:=r.lt;unfold xR;cases ao:kn (λi=>S i&&qP an i==some t) an.size with
 | none =>
  simp only[wg];have h0:=d.xQ j 0 U U;refine AE (n:=(p.h 0).n) (λi ag=>U) _ ?_;cases bf:(p.a 0).tmps[t]? with
  | none=>simp
  | some u=>exact q.1 u (IZ bf)
 | some i =>
  simp only;have⟨ag,bh⟩:=Wj _ ao;simp only[cA,uq] at bh;by_cases z:i<j
  .have ab:=d.xQ j (i+1) U U;exact AE (λk aj=>U) _ ((d.text q s an.size (b4 _)).2.2 i ag)
  .have A:i≠j:=λe=>alQ;exact(d.rI j i y ag (r.km d.ko bh.1 U).symm).1
def Q0(d:p.ji P an){s q}(z:gI (p.h 0).n (p.a 0))(g:db P.globals.size (p.h 0) s q){S j}(r:om an S j){id b}(I:(iE an p S).m id=some b)(he:p.fU j id=false):
 ¬((p.h j).n<=id/\id<(p.h (j+1)).n)/\∀v∈b.cells,e0 (λid=>¬((p.h j).n<=id/\id<(p.h (j+1)).n)) v:=by
 have A:=r.lt;simp only[iE] at I;cases ao:kn (λi=>S i&&p.fU i id) an.size with
 | none =>
  rw[ao] at I;simp only at I;have h0:=d.xQ j 0 U U;have J:=g.lt _ _ I;exact⟨U,λv aE=>AE (λi ag=>U) _ (g.dP _ _ I v aE)⟩
 | some i =>
  rw[ao] at I;simp only at I;have⟨ag,bh⟩:=Wj _ ao;simp only[cA] at bh;have⟨⟨F,C,y⟩,_,_⟩:=d.text z g (i+1) U;have aK:=y.lt _ _ I;by_cases H:i<j
  .have ab:=d.xQ j (i+1) U U;exact⟨U,λv aE=>AE (λk aj=>U) _ (y.dP _ _ I v aE)⟩
  .have K:i≠j:=λe=>alQ;refine⟨λaM=>?_,λv aE=>(d.rI j i A ag ((r.km d.ko bh.1 U).symm)).2 id b bh.2 I v aE⟩;have br:(p.h j).m id=none:=by
    cases hm:(p.h j).m id with
    | none=>rfl
    | some c =>
     have⟨⟨E,L,B⟩,_,_⟩:=d.text z g j U;have:=B.lt _ _ hm;omega
   rw[d.azB id (i+1) (j+1) U U aM.2 (by rwa[d.Cr j A id he])] at I;cases I
def acF(a:p.ji P an){S j}(r:om an S j)id:(iE an p (qc S j)).m id=if p.fU j id then(p.h (j+1)).m id else(iE an p S).m id:=by
 simp only[iE,qc];cases he:p.fU j id with
 | true =>
  rw[r.amY a.ko he λi ag c b=>?_]
  .exact aF
  .have:=a.JO i j ag r.lt b id c;rw[a.AL j r.lt id he] at this;cases this
 | false=>rw[amZ (w:=λi=>p.fU i id) he];simp
def azG(b:p.ji P an){S j}(r:om an S j)t:xR an p (qc S j) t=if qP an j=some t then p.v j else xR an p S t:=by
 simp only[xR,qc];by_cases he:qP an j=some t
 .rw[r.amY b.ko (by simp[he]) λi ag d c=>?_]
  .simp[he]
  .have a:=sn r.lt;have:=(b.bZ i j _ t a ag c (by simpa using d)).2.1;rw[(by simp[qP,a]:qP an j=(an[j]'r.lt).dst)] at he;exact this he
 .rw[amZ (by simp[he])];simp[he]
def acG{S j o}(c:p.ji P an)(r:om an S j)(aH:an[j]?=some o){ρ b u}(hu:u=bP b (p.v j))(aC:∀t,bP b (xR an p S t)=bP ρ (xR an p S t))(f:∀d∈(p.a 0).defers,G5 b d=G5 ρ d):
 (eU ρ (ny an p S)).put o.dst u=eU b (ny an p (qc S j)):=by
 have J:((eU ρ (ny an p S)).put o.dst u).defers=(eU b (ny an p (qc S j))).defers:=by
  have:((eU ρ (ny an p S)).put o.dst u).defers=(eU ρ (ny an p S)).defers:=by cases o.dst<;>rfl
  rw[this];simp only[eU,ny];exact(As f).symm
 have g:((eU ρ (ny an p S)).put o.dst u).tmps=(eU b (ny an p (qc S j))).tmps:=by
  apply k3;apply kg;intro t;rw[pY,pY,amV];simp only[eU,ny,Array.size_map,Array.size_range,IY];by_cases aS:t<(p.a 0).tmps.size
  .rw[sn Jm];simp only[Us,iW,azG c r,(by simp[qP,aH]:qP an j=o.dst)];by_cases he:o.dst=some t
   .simp[he,aS,hu]
   .simp[he,aC]
  .rw[Gx Jm,ai (λe=>aS e.2)];simp
 generalize(eU ρ (ny an p S)).put o.dst u=X at *;generalize eU b (ny an p (qc S j))=Y at *;cases X;cases Y;simp_all
def Inv.skip(b:p.ji P an){e d S A W ρ}(c:Inv P an p e d S A W ρ){j o}(r:om an S j)(aH:an[j]?=some o)(aE:p.v j=undef)(f:p.h (j+1)=p.h j):
 Inv P an p e d (qc S j) (A.put o.dst undef) W ρ:=by
 have a:iE an p (qc S j)=iE an p S:=by
  have:(iE an p (qc S j)).m=(iE an p S).m:=by
   funext id;rw[acF b r];cases he:p.fU j id with
   | false=>simp
   | true=>simp only[kB];rw[f,b.Ek r (b.AL j r.lt id he)]
  unfold iE at *;simp only at this|-;rw[this]
 refine⟨?_,by rw[a];exact c.aQ,by rw[a];exact c.ext⟩;rw[c.act];exact acG b r aH (by rw[aE];simp) (λ_=>rfl) (λ_ _=>rfl)
def azH(a:p.ji P an){S j}(r:om an S j)(he:∀id,p.fU j id=false):iE an p (qc S j)=iE an p S:=by
 have:(iE an p (qc S j)).m=(iE an p S).m:=by
  funext id;rw[acF a r,he id];rfl
 unfold iE at *;simp only at this|-;rw[this]
def Inv.still(b:p.ji P an){k g}(m:gI (p.h 0).n (p.a 0))(w:db P.globals.size (p.h 0) k g){S A W ρ}(s:Inv P an p k g S A W ρ){j o}(r:om an S j)(aH:an[j]?=some o)(he:∀id,p.fU j id=false){ρ' W'}(y:db P.globals.size (iE an p S) ρ' W')(q:Ext (iE an p S) (iE an p S) ρ ρ' W W'):Inv P an p k g (qc S j) (A.put o.dst (bP ρ' (p.v j))) W' ρ':=by
 have e:=azH b r he;refine⟨?_,by rwa[e],by rw[e];exact s.ext.trans q⟩;rw[s.act];refine acG b r aH rfl (λt=>?_) (λd aq=>acm (λi ag=>q.hU i (eQ ag (b.xQ an.size 0 (dG _) (b4 _)))) (m.2 d aq))
 .have I:bw (iE an p S).n (xR an p S t):=by
   unfold xR;cases x:kn (λi=>S i&&qP an i==some t) an.size with
   | none =>
    simp only[wg];cases bf:(p.a 0).tmps[t]? with
    | none=>simp
    | some u=>exact hc (b.xQ an.size 0 (dG _) (b4 _)) _ (m.1 u (IZ bf))
   | some i =>
    have⟨ag,_⟩:=Wj _ x;exact hc (b.xQ an.size (i+1) ag (b4 _)) _ ((b.text m w an.size (b4 _)).2.2 i ag)
  exact vn q.hU _ I
def y8(ρ ρ':eY)(bL ag:Nat):eY:={bJ:=λi=>if bL<=i/\i<ag then ρ'.bJ i else ρ.bJ i,cap:=λi=>if bL<=i/\i<ag then ρ'.cap i else ρ.cap i,fO:=λi=>if bL<=i/\i<ag then ρ'.fO i else ρ.fO i}
def y9{ρ ρ' bL ag i}(h:¬(bL<=i/\i<ag)):(y8 ρ ρ' bL ag).bJ i=ρ.bJ i/\(y8 ρ ρ' bL ag).cap i=ρ.cap i/\(y8 ρ ρ' bL ag).fO i=ρ.fO i:=by simp only[y8,ai h,and_self]
def azI{ρ ρ' a ag}(d:xI a ρ ρ'):xI ag ρ' (y8 ρ ρ' a ag):=by
 intro i b;by_cases h:a<=i
 .simp only[y8,au (show a<=i/\i<ag from⟨h,b⟩),and_self]
 .have:=d i U;simp only[y8,ai (show¬(a<=i/\i<ag) from λc=>h c.1),this,and_self]
def Inv.chunk(g:p.ji P an){q l}(u:gI (p.h 0).n (p.a 0))(s:db P.globals.size (p.h 0) q l){S A W ρ}(f:Inv P an p q l S A W ρ){j}(r:om an S j):
 db P.globals.size ((p.h j).eO (p.hid j)) ρ W:=by
 have d:∀id b,((p.h j).eO (p.hid j)).m id=some b->(iE an p S).m id=some b:=by
  intro id b I;have⟨J,x⟩:=ly.1 I;rwa[g.Ek r J]
 have⟨⟨w,v,e⟩,_,_⟩:=g.text u s j (ph r.lt);exact⟨λid b I=>f.aQ.fa _ _ (d _ _ I),λid b I=>e.lt _ _ (ly.1 I).2,λi k b c t I aB=>f.aQ.inj _ _ _ _ t (d _ _ I) (d _ _ aB),λid b I=>e.dP _ _ (ly.1 I).2,f.aQ.fu,e.kk,e.nx⟩
def Inv.run(y:p.ji P an){h5 h6}(C:gI (p.h 0).n (p.a 0))(B:db P.globals.size (p.h 0) h5 h6){S A W ρ}(s:Inv P an p h5 h6 S A W ρ){j o}(r:om an S j)(aH:an[j]?=some o){ρ' W'}(aE:bw (p.h (j+1)).n (p.v j))(L:db P.globals.size ((p.h (j+1)).eO (p.hid j)) ρ' W')(z:Ext ((p.h j).eO (p.hid j)) ((p.h (j+1)).eO (p.hid j)) ρ ρ' W W'):
 Inv P an p h5 h6 (qc S j) (A.put o.dst (bP ρ' (p.v j))) W' (y8 ρ ρ' (p.h j).n (p.h (j+1)).n):=by
 have bs:=r.lt;have H:xI (p.h (j+1)).n ρ' (y8 ρ ρ' (p.h j).n (p.h (j+1)).n):=azI z.hU;have El:=y.xQ j 0 U U;have mA:=y.xQ an.size (j+1) U (b4 _);have K:∀id b,(iE an p (qc S j)).m id=some b->(((p.h (j+1)).eO (p.hid j)).m id=some b/\id<(p.h (j+1)).n)\/(p.hid j id=true/\p.fU j id=false/\(iE an p S).m id=some b):=by
  intro id b I;rw[acF y r] at I;cases he:p.fU j id with
  | true =>
   rw[he] at I;simp only[kB] at I;have J:=ly.2 ⟨y.AL j bs id he,I⟩;exact .inl ⟨J,L.lt _ _ J⟩
  | false =>
   rw[he] at I;simp only[nN,jE] at I;cases b5:p.hid j id with
   | true=>exact .inr ⟨rfl,rfl,I⟩
   | false =>
    have J:=ly.2 ⟨b5,by rwa[y.Cr j bs id he,<-y.Ek r b5]⟩;exact .inl ⟨J,L.lt _ _ J⟩
 have QY:∀id b,p.hid j id=true->(iE an p S).m id=some b->W'.heap[ρ.bJ id]?=W.heap[ρ.bJ id]?:=by
  refine λid b b5 I=>z.l8 _ (s.aQ.fa _ _ I).lt λk c Q aj ao=>?_;have⟨E,hk⟩:=ly.1 aj;have:=s.aQ.inj _ _ _ _ Q (show(iE an p S).m k=some c by rwa[y.Ek r E]) I ao;subst this;rw[b5] at E;cases E
 have Y:∀(i k:Nat) (b c:cd),df<=i\/df<=k->((p.h (j+1)).eO (p.hid j)).m i=some b->i<(p.h (j+1)).n->p.hid j k=true->p.fU j k=false->(iE an p S).m k=some c ->
  (y8 ρ ρ' (p.h j).n (p.h (j+1)).n).bJ i=(y8 ρ ρ' (p.h j).n (p.h (j+1)).n).bJ k->False:=by
  intro i k b c acx ag T aj he aB ao;rw[(H i T).1,(y9 (Q0 y C B r aB he).1).1] at ao;by_cases F:df<=i
  .have⟨q,d,O,Z,M⟩:=z.fC i b F ag (by rw[ao];exact(s.aQ.fa _ _ aB).lt);have⟨vt,AM⟩:=ly.1 Z;have:=s.aQ.inj _ _ _ _ O (show(iE an p S).m q=some d by rwa[y.Ek r vt]) aB (by rw[M,ao]);subst this;rw[aj] at vt;cases vt
  .have l9:i<(p.h j).n:=by
    have⟨⟨sG,wz,hy⟩,_,_⟩:=y.text C B j (ph r.lt);have:=hy.kk;omega
   have⟨d,aq,_⟩:=z.pq i b l9 ag;have⟨AN,Em⟩:=ly.1 aq;have:=s.aQ.inj _ _ _ _ (acx.resolve_left F) aB (show(iE an p S).m i=some d by rwa[y.Ek r AN]) (by rw[<-ao,(z.hU i l9).1]);subst this;rw[aj] at AN;cases AN
 refine⟨?_,⟨λid b I=>?_,λid b I=>?_,λi k b c F I aB ao=>?_,λid b I v aE=>?_,λg bf=>?_,s.aQ.kk,B.nx⟩,⟨λi ag=>?_,s.ext.mono,λc aB ak=>?_,bx s.ext.size z.size,λid b X I ao=>?_,z.tape.trans s.ext.tape,z.os.trans s.ext.os,z.output.trans s.ext.output,λid b T I=>?_⟩⟩
 .rw[s.act];refine acG y r aH (vn H _ aE).symm (λt=>?_) (λd aq=>?_)
  .exact amT (λi ag=>y9 ag) _ (azF y C B r t)
  .exact acm (λi ag=>y9 U) (C.2 d aq)
 .rcases K id b I with⟨J,ab⟩|⟨J,ab,aK⟩
  .rw[(H id ab).1];exact(L.fa _ _ J).hU H ab (L.dP _ _ J)
  .have⟨br,cz⟩:=Q0 y C B r aK ab;rw[(y9 br).1,QY id b J aK];exact(s.aQ.fa _ _ aK).conv rfl rfl (j5 λv aE=>amT (λi ag=>y9 ag) v (cz v aE)) (λ_=>(y9 br).2.1) (y9 br).2.2 λh=>h
 .rcases K id b I with⟨J,ab⟩|⟨J,ab,aK⟩
  .exact eQ ab mA
  .exact s.aQ.lt _ _ aK
 .rcases K i b I with⟨J,ab⟩|⟨J,ab,aK⟩<;>rcases K k c aB with⟨g1,R⟩|⟨g1,R,g3⟩
  .rw[(H i ab).1,(H k R).1] at ao;exact L.inj _ _ _ _ F J g1 ao
  .exact(Y i k b c (.inl F) J ab g1 R g3 ao).elim
  .exact(Y k i c b (.inr F) g1 R J ab aK ao.symm).elim
  .rw[(y9 (Q0 y C B r aK ab).1).1,(y9 (Q0 y C B r g3 R).1).1] at ao;exact s.aQ.inj _ _ _ _ F aK g3 ao
 .rcases K id b I with⟨J,ab⟩|⟨J,ab,aK⟩
  .exact hc mA v (L.dP _ _ J v aE)
  .exact s.aQ.dP _ _ aK v aE
 .have:=B.kF;have V:=y9 (ρ:=ρ) (ρ':=ρ') (show¬((p.h j).n<=g/\g<(p.h (j+1)).n) by omega);rw[V.1,V.2.2];exact s.aQ.fu g bf
 .have J:=s.ext.hU i ag;have ab:=y9 (ρ:=ρ) (ρ':=ρ') (show¬((p.h j).n<=i/\i<(p.h (j+1)).n) by omega);exact alf
 .rw[<-s.ext.l8 c aB ak];refine z.l8 c (eQ aB s.ext.size) λk b Q aj ao=>?_;have⟨E,hk⟩:=ly.1 aj;have⟨q,d,O,Z,M⟩:=s.ext.fC k b Q (by rwa[y.Ek r E]) (by rw[ao];exact aB);exact ak q d O Z (by rw[M,ao])
 .rcases K id b I with⟨J,ab⟩|⟨J,ab,aK⟩
  .rw[(H id ab).1] at ao|-;have⟨k,c,Q,aj,kG⟩:=z.fC id b X J (eQ ao s.ext.size);have⟨E,hk⟩:=ly.1 aj;have⟨q,d,O,Z,M⟩:=s.ext.fC k c Q (by rwa[y.Ek r E]) (by rw[kG];exact ao);exact⟨q,d,O,Z,M.trans kG⟩
  .have br:=(y9 (ρ:=ρ) (ρ':=ρ') (Q0 y C B r aK ab).1).1;rw[br] at ao|-;exact s.ext.fC id b X aK ao
 .have y7:=(s.ext.hU id T).1;rcases K id b I with⟨J,ab⟩|⟨J,ab,aK⟩
  .have⟨c,aB,cB,cy⟩:=z.pq id b (show id<(p.h j).n by omega) J;have⟨qR,k6⟩:=ly.1 aB;have⟨d,gn,hV,wB⟩:=s.ext.pq id c T (by rwa[y.Ek r qR]);rw[y7] at cy;exact⟨d,gn,bx hV cB,wB.trans cB cy⟩
  .have aj:=QY id b J aK;rw[y7] at aj;rw[aj];exact s.ext.pq id b T aK
def qS(gO:Array Bool):Nat->Bool:=λi=>gO.getD i false
structure Hc(an:Array Oper)(gO:Array Bool):Prop where
 size:gO.size=an.size
 closed:∀k i,qS gO k=true->uJ an k i->qS gO i=true
def JP(an:Array Oper)(gO:Array Bool):Nat:=((List.range an.size).filter λi=>!qS gO i).length
def am3{a:Array Bool}{i}(ag:i<a.size):a.getD i true=a.getD i false:=by simp[wg,sn ag]
def am4{gO}(aC:Hc an gO){j}(h:j∈Region.ready .any an gO):om an (qS gO) j:=by
 have⟨J,aQ5,am5,n1⟩:=mem_ready.1 h;have aA:=(Ar.1 am5).1;refine⟨aA,by rw[am3 (by rwa[aC.size])] at J;exact J,aC.closed,?_⟩
 .rintro i ⟨o,aH,e,he,I,rfl⟩;rw[am5] at aH;injection aH with aH;subst aH;exact n1 e he I
def azJ(I:∀j i,uJ an j i->i<j){gO}(aC:Hc an gO)(h:Region.ready .any an gO=[]):∀j,j<an.size->qS gO j=true:=by
 intro j;induction j using Nat.strongRecOn with
 | ind j aP =>
  intro aA;cases aq:qS gO j with
  | true=>rfl
  | false =>
   have:j∈Region.ready .any an gO:=by
    refine mem_ready.2 ⟨?_,an[j],sn aA,λe he p7=>?_⟩
    .rw[am3 (by rwa[aC.size])];exact aq
    .have:=I _ _ ⟨an[j],sn aA,e,he,p7,rfl⟩;exact aP e.on this U
   rw[h] at this;cases this
def acH{a j}(b:j<a.size):qS (a.setIfInBounds j true)=qc (qS a) j:=by
 funext i;simp only[qS,qc,wg,PT];by_cases h:j=i
 .subst h;simp[b]
 .have:(i==j)=false:=jf;simp[h,this]
def Hc.add{a}(aC:Hc an a){j}(r:om an (qS a) j):Hc an (a.setIfInBounds j true):=by
 refine⟨by simp[aC.size],?_⟩;rw[acH abJ];intro k i aj b;simp only[qc,l3,uq] at aj|-;rcases aj with aj|rfl
 .exact .inl (aC.closed _ _ aj b)
 .exact .inl (r.acA _ b)
def filter_lt{p q}:∀(l:List Nat),(∀i∈l,q i=true->p i=true)->(∃j∈l,p j=true/\q j=false)->(l.filter q).length<(l.filter p).length:=by
 intro l;induction l with
 | nil=>rintro _ ⟨j,c,_⟩;cases c
 | cons a l t =>
  intro h ⟨j,c,bh,k⟩;have f:∀l:List Nat,(∀i∈l,q i=true->p i=true)->(l.filter q).length<=(l.filter p).length:=by
   intro l;induction l with
   | nil=>exact λ_=>b4 _
   | cons b l r =>
    intro g;have:=r λi ag=>g i Mt;cases e:q b with
    | true=>simp[e,g b aF e];exact dm
    | false=>cases s:p b<;>simp[e,s]<;>omega
  rcases dI.1 c with rfl|c
  .have:=f l λi ag=>h i Mt;simp[bh,k];omega
  .have:=t (λi ag=>h i Mt) ⟨j,c,bh,k⟩;cases d:q a with
   | true=>simp[d,h a aF d];omega
   | false=>cases m:p a<;>simp[d,m]<;>omega
def azK{a}(aC:Hc an a){j}(r:om an (qS a) j):JP an (a.setIfInBounds j true)<JP an a:=by
 unfold JP;rw[acH abJ];refine filter_lt _ (λi _ h=>?_) ⟨j,PU.2 r.lt,by simp[r.MD],by simp[qc]⟩;simp only[qc,mV,PR] at h|-;exact h.1
def azL(ok:p.ji P an){S}(h:∀j,j<an.size->S j=true):iE an p S=p.h an.size:=by
 have:(iE an p S).m=(p.h an.size).m:=by
  funext id;rw[ok.acy id an.size (b4 _)];simp only[iE];rw[MO (q:=λi=>p.fU i id) _ λi ag=>by simp[h i ag]]
 have ab:(iE an p S).n=(p.h an.size).n:=rfl;generalize iE an p S=X at *;generalize p.h an.size=Y at *;cases X;cases Y;simp_all
def azM(ok:p.ji P an){S}(h:∀j,j<an.size->S j=true):ny an p S=p.a an.size:=by
 have ej:=ok.acz an.size (b4 _);have J:(ny an p S).tmps=(p.a an.size).tmps:=by
  apply k3;apply kg;intro t;rw[pY,pY];by_cases aS:t<(p.a 0).tmps.size
  .rw[ok.amW t aS an.size (b4 _)];simp only[ny,IY];rw[sn Jm];simp only[Us,iW,xR];rw[MO (q:=λi=>qP an i==some t) _ λi ag=>by simp[h i ag]]
  .rw[Gx (by simp[ny];omega),Gx (by rw[ej.1];omega)]
 have ab:(ny an p S).defers=(p.a an.size).defers:=ej.2.symm;generalize ny an p S=X at *;generalize p.a an.size=Y at *;cases X;cases Y;simp_all
def rH.ji.any(ok:p.ji P an){C B}(u:gI (p.h 0).n (p.a 0))(s:db P.globals.size (p.h 0) C B)Q(j8:∀ρ W,gI (p.h an.size).n (p.a an.size)->db P.globals.size (p.h an.size) ρ W->Ext (p.h 0) (p.h an.size) C ρ B W->Q .normal (eU ρ (p.a an.size)) W):
 ∀bu (gO:Array Bool) (A:Act) (W:World) (ρ:eY),JP an gO<=bu->Hc an gO->Inv P an p C B (qS gO) A W ρ->wpAny P .any an Q bu gO A W:=by
 have T:∀(gO:Array Bool) (A:Act) (W:World) (ρ:eY),Hc an gO->Inv P an p C B (qS gO) A W ρ->(∀j,j<an.size->qS gO j=true)->Q .normal A W:=by
  intro gO A W ρ aC d n1;have J:=d.aQ;have ab:=d.ext;rw[azL ok n1] at J ab;rw[d.act,azM ok n1];exact j8 ρ W (ok.text u s an.size (b4 _)).2.1 J ab
 intro bu;induction bu with
 | zero =>
  intro gO A W ρ hu aC d;have n1:∀j,j<an.size->qS gO j=true:=by
   intro j aA;cases aq:qS gO j with
   | true=>rfl
   | false =>
    have:j∈(List.range an.size).filter λi=>!qS gO i:=by simp[aA,aq]
    unfold JP at hu;rw[(Gt U:((List.range an.size).filter λi=>!qS gO i)=[])] at this;cases this
  refine⟨?_,T gO A W ρ aC d n1⟩;cases aM:Region.ready .any an gO with
  | nil=>rfl
  | cons i l =>
   have z:=am4 aC (j:=i) (by rw[aM];simp);have:=z.MD;rw[n1 i z.lt] at this;cases this
 | succ bu aP =>
  refine λgO A W ρ hu aC d=>⟨λaM=>T gO A W ρ aC d (azJ ok.ko aC aM),λj aA=>?_⟩;have r:=am4 aC aA;have k:=sn r.lt;have D:=aC.add r;have R:JP an (gO.setIfInBounds j true)<=bu:=by have:=azK aC r;omega
  have E:=acH abJ;have O:Region.wanted (an[j]'r.lt) (yielded an A.tmps)=Region.wanted (an[j]'r.lt) (yielded an (p.a j).tmps):=by
   rw[d.act,Wh];unfold Region.wanted;cases bf:(an[j]'r.lt).guard with
   | none=>rfl
   | some N =>
    have⟨g,w⟩:=N;simp only[yielded];cases M:(an[g]?).bind (·.dst) with
    | none=>rfl
    | some t =>
     have:=ok.acC r (λi ag y aq=>(ok.bZ i j _ t k ag y aq).2.2 g w bf M);simp only[tm,this]
  unfold wpOp;rw[k];simp only[O];rcases ok.step j _ k with⟨hw,aE,V⟩|⟨hw,aj,aS⟩|⟨hw,aj,V,bM,b,c,J,ab,aK,aS⟩
  .rw[ai VN];refine aP _ _ _ ρ R D ?_;rw[E];exact d.skip ok r k aE V
  .rw[au hw];left;have⟨⟨sG,wz,F⟩,H,_⟩:=ok.text u s j (ph r.lt);refine aS (λx aa=>AG F.kF H x (aj x aa)) ρ W (d.chunk ok u s r) A _ Q (λx aa=>?_) λρ' W' Z K L=>?_
   .rw[d.act,y4 d.aQ.fu _ x (aj x aa)];congr 1;cases x with
    | tmp t =>
     simp only[Act.eval,wg];rw[ok.acC r λi ag y aq=>(ok.bZ i j _ t k ag y aq).1 _ aa rfl]
    | const v=>rfl
    | global g=>rfl
    | func f=>rfl
   .refine aP _ _ _ (y8 ρ ρ' (p.h j).n (p.h (j+1)).n) R D ?_;rw[E];exact d.run ok u s r k Z K L
  .rw[au hw];left;have⟨⟨sG,wz,F⟩,H,_⟩:=ok.text u s j (ph r.lt);refine aS _ (ok.azE r J ab aK) (λx aa=>hc (ok.xQ an.size j (ph r.lt) (b4 _)) _ (AG F.kF H x (aj x aa))) ρ W d.aQ A _ Q (λx aa=>?_) λρ' W' Z K L=>?_
   .rw[d.act,y4 d.aQ.fu _ x (aj x aa)];congr 1;cases x with
    | tmp t =>
     simp only[Act.eval,wg];rw[ok.acC r λi ag y aq=>(ok.bZ i j _ t k ag y aq).1 _ aa rfl]
    | const v=>rfl
    | global g=>rfl
    | func f=>rfl
   .refine aP _ _ _ ρ' R D ?_;rw[E];exact d.still ok u s r k bM K L
def rH.ji.region(q:p.ji P an)(hm:P.follows .mixedOrders=true){id}:iO P (.region id an true) (p.a 0) (p.h 0) .normal (p.a an.size) (p.h an.size):=by
 refine λI ρ W u=>wp_region_any hm ?_;have e:db P.globals.size (p.h 0) ρ {W with drawn:=W.drawn+1}:=u.QW rfl;have h0:qS (Array.replicate an.size false)=λ_=>false:=by
  funext i;simp only[qS,wg,Array.getElem?_replicate];split<;>rfl
 have s:∀(w:Nat->Bool) (n:Nat),kn (λi=>false&&w i) n=none:=by
  intro w n;induction n with
  | zero=>rfl
  | succ n z=>rw[kn];simpa using z
 refine q.any I u _ (λρ' W' d x y=>⟨rfl,ρ',rfl,d,x,y⟩) an.size _ _ _ ρ ?_ ⟨aF,by rw[h0];intro k i aj;cases aj⟩ ?_
 .unfold JP;exact amm
 .rw[h0];have f:(iE an p λ_=>false).m=(p.h 0).m:=by funext id;simp only[iE,s]
  have g:=q.xQ an.size 0 (dG _) (b4 _);refine⟨?_,⟨λi b d=>?_,λi b d=>?_,λi j b c l d r=>?_,λi b d v aE=>?_,e.fu,bx e.kk g,e.nx⟩,⟨λ_ _=>⟨rfl,rfl,rfl⟩,g,λ_ _ _=>rfl,b4 _,λi b l d _=>?_,rfl,rfl,rfl,λi b _ d=>⟨b,by rwa[<-f],b4 _,.refl _ _⟩⟩⟩
  .congr 1;have:(ny an p λ_=>false).tmps=(p.a 0).tmps:=by
    apply k3;apply kg;intro t;rw[pY,pY];simp only[ny,IY];by_cases aS:t<(p.a 0).tmps.size
    .rw[sn Jm];simp only[Us,iW,xR,s];simp[wg,sn aS]
    .rw[Gx Jm,Gx U];rfl
   have A:(ny an p λ_=>false).defers=(p.a 0).defers:=rfl;generalize ny an p (λ_=>false)=X at *;generalize p.a 0=Y at *;cases X;cases Y;simp_all
  .rw[f] at d;exact e.fa i b d
  .rw[f] at d;exact eQ (e.lt i b d) g
  .rw[f] at d r;exact e.inj i j b c l d r
  .rw[f] at d;exact hc g v (e.dP i b d v aE)
  .rw[f] at d;exact⟨i,b,l,d,rfl⟩
structure qd where
 o:Oper
 a:Act
 h:aV
 v:Value
 aw:aV
 hid:Nat->Bool
 fU:Nat->Bool
 Wl:Option (Nat×Nat):=none
structure qd.ji(P:Program)(an:Array Oper)(x:qd):Prop where
 step:(Region.wanted x.o (yielded an x.a.tmps)=false/\x.v=undef/\x.aw=x.h)\/
  (Region.wanted x.o (yielded an x.a.tmps)=true/\(∀y∈x.o.op.operands,rF P.globals.size y)/\bE P x.o x.a.eval (x.h.eO x.hid) x.v (x.aw.eO x.hid))\/
  (Region.wanted x.o (yielded an x.a.tmps)=true/\(∀y∈x.o.op.operands,rF P.globals.size y)/\x.aw=x.h/\(∀id,x.fU id=false)/\∃b c,x.Wl=some (b,c)/\xP x.h b c x.v/\∀H,xP H b c x.v->bE P x.o x.a.eval H x.v H)
 mono:x.h.n<=x.aw.n
 fresh:∀id,id<x.h.n->x.h.m id=none->x.aw.m id=none
 Cr:∀id,x.fU id=false->x.aw.m id=x.h.m id
 AL:∀id,x.fU id=true->x.hid id=false
def JQ(x:qd)(id:Nat):Prop:=x.h.n<=id/\id<x.aw.n
structure Q2(an:Array Oper)(x y:qd):Prop where
 JO:∀id,x.fU id=true->y.hid id=true
 bZ:∀t,x.o.dst=some t->(∀z∈y.o.op.operands,z≠.tmp t)/\y.o.dst≠some t/\∀g w,y.o.guard=some (g,w)->qP an g≠some t
 val:e0 (λid=>¬JQ y id) x.v
 cells:∀id b,x.fU id=true->x.aw.m id=some b->∀v∈b.cells,e0 (λid=>¬JQ y id) v
structure acJ(x y:qd):Prop where
 fst:∀b c,x.Wl=some (b,c)->y.fU b=true->xP y.aw b c x.v
 snd:∀b c,y.Wl=some (b,c)->x.fU b=false
def En:List qd->Act->aV->Act->aV->Prop
 | [],a,h,b6,aw=>a=b6/\h=aw
 | x::l,a,h,b6,aw=>x.a=a/\x.h=h/\En l (a.put x.o.dst x.v) x.aw b6 aw
def lu(l:List qd)(azP:Act)(azQ:aV):rH where
 a j:=match l[j]? with|some x=>x.a|none=>azP
 h j:=match l[j]? with|some x=>x.h|none=>azQ
 v j:=match l[j]? with|some x=>x.v|none=>undef
 hid j:=match l[j]? with|some x=>x.hid|none=>λ_=>false
 fU j:=match l[j]? with|some x=>x.fU|none=>λ_=>false
def He:∀{l:List qd}{a b6:Act}{h aw:aV} (_:En l a h b6 aw) {j:Nat}{x:qd} (_:l[j]?=some x),
 (lu l b6 aw).a (j+1)=x.a.put x.o.dst x.v/\(lu l b6 aw).h (j+1)=x.aw:=by
 intro l;induction l with
 | nil=>intro a b6 h aw _ j x aa;simp at aa
 | cons y l g =>
  intro a b6 h aw aB j x aa;have⟨J,k,f⟩:=aB;cases j with
  | zero =>
   simp only[kC,dh] at aa;subst aa;cases l with
   | nil=>have⟨e,d⟩:=f;simp[lu,e,d,J]
   | cons z l=>have⟨e,d,_⟩:=f;simp[lu,e,d,J]
  | succ j =>
   simp only[pg] at aa;have:=g f aa;simpa[lu] using this
def azR{l a b6 h aw}(aB:En l a h b6 aw):(lu l b6 aw).a 0=a/\(lu l b6 aw).h 0=h:=by
 cases l with
 | nil=>have⟨J,b⟩:=aB;simp[lu,J,b]
 | cons x l=>have⟨J,b,_⟩:=aB;simp[lu,J,b]
def azS{l a b6 h aw}(aB:En l a h b6 aw)(ao:l.map (·.o)=an.toList)(F:∀j i,uJ an j i->i<j)(s:∀x∈l,x.ji P an)(f:∀i j x y,i<j->l[i]?=some x->l[j]?=some y->¬qO an j i->(Q2 an x y/\Q2 an y x)/\acJ x y):(lu l b6 aw).ji P an:=by
 have N:l.length=an.size:=ala;have q:∀j,j<an.size->∃x,l[j]?=some x/\an[j]?=some x.o/\x∈l:=by
  intro j m;have A:j<l.length:=U;refine⟨l[j],ey A,?_,aaM A⟩;rw[<-pY,<-ao,gf,ey A];rfl
 have bh:∀i j x y,l[i]?=some x->l[j]?=some y->sM an i j->Q2 an x y:=by
  intro i j x y aa C g;rcases PV i j with J|J|J
  .exact(f i j x y J aa C g.2.1).1.1
  .exact absurd J g.1
  .exact(f j i y x J C aa g.2.2).1.2
 have dC:∀{j:Nat}{o:Oper},an[j]?=some o->∃x,l[j]?=some x/\x.o=o/\x∈l:=by
  intro j o aH;have⟨x,J,r,e⟩:=q j (Ar.1 aH).1;rw[r] at aH;injection aH with aH;exact⟨x,J,aH,e⟩
 refine⟨F,?_,?_,?_,?_,?_,?_,?_,?_,?_⟩
 .intro j o aH;obtain⟨x,J,rfl,e⟩:=dC aH;have⟨O,H⟩:=He aB J;have m:=(Ar.1 aH).1;rw[H,(Ql:(lu l b6 aw).a j=x.a),(Ql:(lu l b6 aw).h j=x.h),(Ql:(lu l b6 aw).v j=x.v),(Ql:(lu l b6 aw).hid j=x.hid)];rcases(s x e).step with aC|aC|⟨s1,s2,D,M,b,c,u,L,B⟩
  .exact .inl aC
  .exact .inr (.inl aC)
  .refine .inr (.inr ⟨s1,s2,D,λid=>by rw[(Ql:(lu l b6 aw).fU j=x.fU)];exact M id,b,c,λi z g=>?_,λi ag z g he=>?_,L,B⟩)
   .have⟨y,d,g2,w⟩:=q i U;have:(lu l b6 aw).fU i=y.fU:=by simp only[lu,d]
    rw[this];exact(f i j y x z d J g.2.1).2.snd b c u
   .have⟨y,d,g2,w⟩:=q i ag;have:(lu l b6 aw).fU i=y.fU:=by simp only[lu,d]
    rw[this] at he;rw[(He aB d).2];exact(f j i x y z J d g.2.2).2.fst b c u he
 .intro j o aH;obtain⟨x,J,rfl,e⟩:=dC aH;rw[(He aB J).1];simp only[lu,J]
 .intro j m;have⟨x,J,r,e⟩:=q j m;rw[(He aB J).2];simp only[lu,J];exact(s x e).mono
 .intro j m id;have⟨x,J,r,e⟩:=q j m;rw[(He aB J).2];simp only[lu,J];exact(s x e).fresh id
 .intro j m id;have⟨x,J,r,e⟩:=q j m;rw[(He aB J).2];simp only[lu,J];exact(s x e).Cr id
 .intro j m id;have⟨x,J,r,e⟩:=q j m;simp only[lu,J];exact(s x e).AL id
 .intro i j ag m g id;have⟨x,J,r,e⟩:=q i ag;have⟨y,d,g2,w⟩:=q j m;simp only[lu,J,d];exact(bh i j x y J d g).JO id
 .intro i j Q t E ag g K;have⟨x,J,r,e⟩:=q i ag;obtain⟨y,d,rfl,w⟩:=dC E;exact(bh i j x y J d g).bZ t (by simpa[qP,r] using K)
 .intro j k m aj g;have⟨x,J,r,e⟩:=q k aj;have⟨y,d,g2,w⟩:=q j m;rw[(He aB J).2,(He aB d).2];simp only[lu,J,d];have:=bh k j x y J d g.symm;exact⟨this.val,this.cells⟩
def azU{l a b6 h aw}(hm:P.follows .mixedOrders=true)(aB:En l a h b6 aw)(ao:l.map (·.o)=an.toList)(e:∀j i,uJ an j i->i<j)(d:∀x∈l,x.ji P an)(b:∀i j x y,i<j->l[i]?=some x->l[j]?=some y->¬qO an j i->(Q2 an x y/\Q2 an y x)/\acJ x y){id}:iO P (.region id an true) a h .normal b6 aw:=by
 have aj:=(azS aB ao e d b).region hm (id:=id);have⟨J,f⟩:=azR aB;rw[J,f] at aj;have c:l.length=an.size:=ala;rw[(by simp[lu,<-c]:(lu l b6 aw).a an.size=b6),(by simp[lu,<-c]:(lu l b6 aw).h an.size=aw)] at aj;exact aj
variable{α:Type}
def iC{a b}:Nat.blt a b=true↔a<b:=by rw[Nat.blt_eq]
variable{o:Oper}
section
variable{ev:Operand->Value}
def MQ:Value->Bool
 | .bool _|.int _ _|.float _ _|.complex _ _ _|.string _|.nilFunc|.nilIface=>true
 | .pointer none|.map none|.slice none _ _=>true
 | .func _ ⟨[]⟩ ⟨[]⟩=>true
 | _=>false
def Wn:Value->Bool
 | .agg cs=>cs.toList.all MQ
 | .tuple cs=>cs.toList.all MQ
 | v=>MQ v
def ab3{v}(h:MQ v=true):bw 0 v:=by
 unfold MQ at h;split at h<;>first|simp;done|cases h
def tx{v}(h:Wn v=true):bw 0 v:=by
 unfold Wn at h;split at h
 .rw[qK];exact alJ
 .rw[y2];exact alJ
 .exact ab3 h
def qT{a b:Nat}:Nat.ble a b=true↔a<=b:=by rw[Nat.ble_eq]
end
section
variable{ev:Operand->Value}
def Wo:Value->Value->Bool
 | .int _ _,.int _ _|.string _,.string _|.bool _,.bool _=>true
 | _,_=>false
def add_eq(a:Addr)n:a.add n=bif Nat.beq n 0 then a else{block:=a.block,off:=Nat.add a.off n,spot:=none}:=by
 unfold Addr.add;cases n with
 | zero=>rfl
 | succ n=>rfl
end
section
variable{ev:Operand->Value}
end
section
variable{ev:Operand->Value}
end
section
variable{ev:Operand->Value}
end
section
variable{ev:Operand->Value}
noncomputable def Wp(G:Nat):Operand->Bool
 | .const v=>Wn v
 | .global g=>Nat.blt g G
 | _=>true
def akV{G x}(h:Wp G x=true):rF G x:=by
 cases x with
 | const v=>exact tx h
 | global g=>exact iC.1 h
 | tmp t=>trivial
 | func f=>trivial
noncomputable def Q3(G:Nat)(an:Array Oper):Bool:=an.toList.all λo=>o.op.operands.toList.all (Wp G)
def Wq{G an}(h:Q3 G an=true){i:Nat}{o}(aH:an[i]?=some o):∀x∈o.op.operands,rF G x:=by
 intro x aa;exact akV (iB.1 (iB.1 h o (by simpa using IZ aH)) x B6)
end
def azV ρ a t:(eU ρ a).tmps.getD t undef=bP ρ (a.tmps.getD t undef):=by
 simp only[eU,wg,IY];cases a.tmps[t]?<;>simp
def lS(tmps:Array Value):ResultVar->Sem Value
 | .tmp t=>Pure.pure (tmps.getD t undef)
 | .cell a t=>do loadVar t (<-asAddr (tmps.getD a undef))
def azW fn tmps:results fn tmps=(do let vs <-fn.results.mapM (lS tmps);Pure.pure (if h:vs.size=1 then vs[0] else .tuple vs)):=by
 unfold results;congr 1
def bc.am8{f args h aw v}(aS:bc P f args h v aw)(aE:bw h.n v)(aC:∀i,i<h.n->aw.m i=h.m i):bc P f args h v h:=by
 refine λs ρ W g=>(aS s ρ W g).mono ?_;rintro e W' ⟨ρ',rfl,_,k,d⟩;have a:∀i b,h.m i=some b->aw.m i=some b:=λi b I=>by rwa[aC i (g.lt _ _ I)]
 refine⟨ρ',rfl,aE,⟨λi b I=>k.fa _ _ (a i b I),λi b I=>g.lt _ _ I,λi j b c l I aB q=>k.inj _ _ _ _ l (a i b I) (a j c aB) q,λi b I=>g.dP _ _ I,k.fu,g.kk,g.nx⟩,
  ⟨d.hU,b4 _,d.l8,d.size,λi b l I q=>d.fC i b l (a i b I) q,d.tape,d.os,d.output,λi b r I=>d.pq i b r (a i b I)⟩⟩
def aV.eq{a b:aV}(J:∀i,a.m i=b.m i)(d:a.n=b.n):a=b:=by
 cases a;cases b;simp only at J d;subst d;congr;funext i;exact J i
def Q4{c x}(h:(bif c then x else false)=true):c=true/\x=true:=by cases c<;>simp_all
noncomputable def wD(m i:Nat):Bool:=Nat.beq (Nat.mod (Nat.shiftRight m i) 2) 1
def Sat(P:Program)(h:aV):Prop:=∃ρ W,db P.globals.size h ρ W
def bE.j9{o a h aw v}(aS:bE P o a.eval h v aw)(aj:∀x∈o.op.operands,rF P.globals.size x)(s:Sat P h)(I:gI h.n a):Sat P aw/\bw aw.n v:=by
 have⟨ρ,W,aH⟩:=s;have:=Wi (aS (λx aa=>AG aH.kF I x (aj x aa)) ρ W aH (eU ρ a) (λ_ W'=>∃ρ',bw aw.n v/\db P.globals.size aw ρ' W') (λ_ _ _=>False)
  (λx aa=>y4 aH.fu _ x (aj x aa)) λρ' W' aE b _=>⟨ρ',aE,b⟩)
 have⟨_,W',ρ',aE,b⟩:=this;exact⟨⟨ρ',W',b⟩,aE⟩
def am9{α:Type}{c x}{r:α}(h:(bif c then x else none)=some r):c=true/\x=some r:=by cases c<;>simp_all
def Sat.dP{h}(s:Sat P h):∀id b,h.m id=some b->∀v∈b.cells,bw h.n v:=by
 have⟨ρ,W,aH⟩:=s;exact aH.dP
noncomputable def Q5(ms:List Nat):List Edge->Option Nat
 | []=>some 0
 | e::es=>match Q5 ms es with
  | some r=>bif Region.binds .any e then(match ms[e.on]? with
   | some m=>some (Nat.lor r (Nat.lor m (Nat.pow 2 e.on)))
   | none=>none) else some r
  | none=>none
noncomputable def Q6:List Oper->List Nat->Option (List Nat)
 | [],ms=>some ms
 | o::l,ms=>match Q5 ms o.after.toList with
  | some m=>Q6 l (ms++[m])
  | none=>none
def Wr m i:wD m i=m.testBit i:=by
 unfold wD;rw[Nat.testBit_eq_decide_div_mod_eq];have:Nat.mod (Nat.shiftRight m i) 2=m/2^i%2:=by
  show(m>>>i)%2=_;rw[ajv]
 rw[this];by_cases h:m/2^i%2=1
 .exact yY
 .simp only[h,decide_false];cases I:Nat.beq (m/2^i%2) 1 with
  | false=>rfl
  | true=>exact abG
def azX{g}:∀{a:List Edge}{m:Nat},Q5 g a=some m->(∀e∈a,Region.binds .any e=true->e.on<g.length)/\∀i,wD m i=true->∃e∈a,Region.binds .any e=true/\(e.on=i\/∃q,g[e.on]?=some q/\wD q i=true):=by
 intro a;induction a with
 | nil =>
  intro m h;simp only[Q5,dh] at h;subst h;refine⟨λe he=>(by cases he),λi ag=>?_⟩;rw[Wr] at ag;simp at ag
 | cons e a s =>
  intro m h;simp only[Q5] at h;split at h
  .rename_i r aM;have⟨J,k⟩:=s aM;cases I:Region.binds .any e with
   | false =>
    rw[I] at h;simp only[cond_false,dh] at h;subst h;refine⟨λq aG b=>?_,λi ag=>?_⟩
    .rcases dI.1 aG with rfl|aG
     .rw[I] at b;cases b
     .exact J q aG b
    .have⟨q,aG,f⟩:=k i ag;exact⟨q,QF,f⟩
   | true =>
    rw[I] at h;simp only[cond_true] at h;split at h
    .rename_i d c;simp only[dh] at h;subst h;refine⟨λq aG b=>?_,λi ag=>?_⟩
     .rcases dI.1 aG with rfl|aG
      .exact(cS.1 c).1
      .exact J q aG b
     .rw[Wr] at ag;have j:(r|||(d|||2^e.on)).testBit i=true:=ag;rw[Nat.testBit_or,Nat.testBit_or,Nat.testBit_two_pow] at j;simp only[l3,ed] at j;rcases j with f|f|f
      .have⟨q,aG,l⟩:=k i (by rwa[Wr]);exact⟨q,QF,l⟩
      .exact⟨e,aF,I,.inr ⟨d,c,by rwa[Wr]⟩⟩
      .exact⟨e,aF,I,.inl f⟩
    .exact jh
  .exact jh
def azY:∀{l:List Oper}{a c:List Nat},(∀i o,l[i]?=some o->an[a.length+i]?=some o)->a.length+l.length=an.size->(∀j q,a[j]?=some q->(∀i,uJ an j i->i<j)/\∀i,wD q i=true->qO an j i)->Q6 l a=some c ->
 c.length=an.size/\∀j q,c[j]?=some q->(∀i,uJ an j i->i<j)/\∀i,wD q i=true->qO an j i:=by
 intro l;induction l with
 | nil =>
  intro a c _ dO h he;simp only[Q6,dh] at he;subst he;exact⟨GR,h⟩
 | cons o l aP =>
  intro a c g dO h he;simp only[Q6] at he;split at he
  .rename_i m hm;have⟨J,k⟩:=azX hm;have aH:an[a.length]?=some o:=by simpa using g 0 o rfl
   refine aP (λi q aG=>?_) (by simp at dO|-;omega) (λj q aG=>?_) he
   .have:=g (i+1) q abA;simp only[iM,e5,vg];rwa[show a.length+(0+1)+i=a.length+(i+1) by omega]
   .rw[List.getElem?_append] at aG;split at aG
    .exact h j q aG
    .rename_i u;have r:j=a.length:=by
      have⟨b,_⟩:=cS.1 aG;simp at b;omega
     subst r;simp at aG;subst aG;refine⟨?_,λi ag=>?_⟩
     .rintro i ⟨t,d,e,he,I,rfl⟩;rw[aH] at d;injection d with d;subst d;exact J e D1 I
     .have⟨e,he,I,b⟩:=k i ag;have f:uJ an a.length e.on:=⟨o,aH,e,D1,I,rfl⟩;rcases b with b|⟨q,aG,s⟩
      .exact b▸qO.one f
      .exact qO.ik f ((h e.on q aG).2 i s)
  .cases he
noncomputable def MR(an:List Oper)(x y:Oper):Bool:=match x.dst with
 | none=>true
 | some t=>(y.op.operands.toList.all λz=>match z with|.tmp u=>!(Nat.beq u t)|_=>true)&&(match y.dst with|some u=>!(Nat.beq u t)|none=>true)&&
  (match y.guard with|some (g,_)=>(match an[g]? with|some q=>(match q.dst with|some u=>!(Nat.beq u t)|none=>true)|none=>true)|none=>true)
def acL{a b:Nat}(h:(!(Nat.beq a b))=true):a≠b:=by
 intro e;subst e;simp at h
def anb{x y}(h:MR an.toList x y=true):∀t,x.dst=some t->(∀z∈y.op.operands,z≠.tmp t)/\y.dst≠some t/\∀g w,y.guard=some (g,w)->qP an g≠some t:=by
 intro t aS;unfold MR at h;rw[aS] at h;simp only[cA] at h;have⟨⟨J,ab⟩,aK⟩:=h;refine⟨λz a7 e=>?_,λe=>by rw[e] at ab;exact acL ab rfl,λg w bf e=>?_⟩
 .have:=iB.1 J z (by simpa using a7);subst e;exact acL this rfl
 .rw[bf] at aK;simp only at aK;unfold qP at e;rw[<-pY] at e;cases aG:an.toList[g]? with
  | none=>rw[aG] at e;cases e
  | some q =>
   rw[aG] at e aK;simp only[tm] at e;simp only at aK;rw[e] at aK;exact acL aK rfl
noncomputable def MS(an:List Oper)(m:Nat)(y:Oper):List Oper->Nat->Bool
 | [],_=>true
 | x::l,i=>bif wD m i then MS an m y l (i+1) else bif MR an x y then(bif MR an y x then MS an m y l (i+1) else false) else false
noncomputable def Ws(an:List Oper):List (Oper×Nat)->Nat->Bool
 | [],_=>true
 | (y,m)::l,j=>bif MS an m y (an.take j) 0 then Ws an l (j+1) else false
def azZ{b m y}:∀{l:List Oper}{k:Nat},MS b m y l k=true->∀i x,l[i]?=some x->wD m (k+i)=false->MR b x y=true/\MR b y x=true:=by
 intro l;induction l with
 | nil=>intro k _ i x aa;simp at aa
 | cons a l e =>
  intro k h i x aa I;simp only[MS] at h;cases i with
  | zero =>
   simp only[kC,dh] at aa;subst aa;rw[nq] at I;rw[I] at h;have⟨J,d⟩:=Q4 h;exact⟨J,(Q4 d).1⟩
  | succ i =>
   simp only[pg] at aa;refine e ?_ i x aa aly;cases aj:wD m k with
   | true=>rw[aj] at h;exact h
   | false=>rw[aj] at h;exact(Q4 (Q4 h).2).2
def az0{e}:∀{l:List (Oper×Nat)}{k:Nat},Ws e l k=true->∀j y m,l[j]?=some (y,m)->MS e m y (e.take (k+j)) 0=true:=by
 intro l;induction l with
 | nil=>intro k _ j y m h;simp at h
 | cons a l g =>
  have⟨a,b⟩:=a;intro k h j y m d;simp only[Ws] at h;have⟨J,f⟩:=Q4 h;cases j with
  | zero =>
   simp only[kC,dh,Ut] at d;obtain⟨rfl,rfl⟩:=d;exact J
  | succ j =>
   simp only[pg] at d;have:=g f j y m d;rwa[show k+(j+1)=k+1+j by omega]
noncomputable def MT(P:Program)(an:Array Oper):Option (List (Oper×Nat)):=match Q6 an.toList [] with
 | some ms=>bif Q3 P.globals.size an then(bif Ws an.toList (an.toList.zip ms) 0 then some (an.toList.zip ms) else none) else none
 | none=>none
structure anc(x y:qd):Prop where
 JO:∀id,x.fU id=true->y.hid id=true
 val:e0 (λid=>¬JQ y id) x.v
 cells:∀id b,x.fU id=true->x.aw.m id=some b->∀v∈b.cells,e0 (λid=>¬JQ y id) v
def sub(hK:Nat->Nat):Value->Value
 | .pointer (some a)=>.pointer (some {a with block:=hK a.block})
 | .slice (some a) l c=>.slice (some {a with block:=hK a.block}) l c
 | .map (some r)=>.map (some (hK r))
 | .chan (some r)=>.chan (some (hK r))
 | .func fn f c=>.func fn (f.attach.map λ⟨v,_⟩=>sub hK v) (c.attach.map λ⟨v,_⟩=>sub hK v)
 | .iface t v=>.iface t (sub hK v)
 | .agg cs=>.agg (cs.attach.map λ⟨v,_⟩=>sub hK v)
 | .tuple cs=>.tuple (cs.attach.map λ⟨v,_⟩=>sub hK v)
 | v=>v
section
variable(hK:Nat->Nat)
@[simp] theorem ane cs:sub hK (.agg cs)=.agg (cs.map (sub hK)):=by rw[sub];simp
@[simp] theorem anf cs:sub hK (.tuple cs)=.tuple (cs.map (sub hK)):=by rw[sub];simp
@[simp] theorem ang fn f c:sub hK (.func fn f c)=.func fn (f.map (sub hK)) (c.map (sub hK)):=by rw[sub];simp
@[simp] theorem aQ6 t v:sub hK (.iface t v)=.iface t (sub hK v):=by rw[sub]
@[simp] theorem aQ7 b:sub hK (.bool b)=.bool b:=GU
@[simp] theorem aQ8 k n:sub hK (.int k n)=.int k n:=GU
@[simp] theorem aQ9 s:sub hK (.string s)=.string s:=GU
@[simp] theorem aRa:sub hK .nilFunc=.nilFunc:=GU
@[simp] theorem aRb:sub hK .nilIface=.nilIface:=GU
@[simp] theorem aRc:sub hK (.pointer none)=.pointer none:=GU
@[simp] theorem aRd a:sub hK (.pointer (some a))=.pointer (some {a with block:=hK a.block}):=by rw[sub]
@[simp] theorem aRe l c:sub hK (.slice none l c)=.slice none l c:=GU
@[simp] theorem aRf a l c:sub hK (.slice (some a) l c)=.slice (some {a with block:=hK a.block}) l c:=by rw[sub]
@[simp] theorem aRg:sub hK (.map none)=.map none:=GU
@[simp] theorem az1 r:sub hK (.map (some r))=.map (some (hK r)):=by rw[sub]
end
def Eo(hK:Nat->Nat)(ρ:eY):eY:=⟨λi=>ρ.bJ (hK i),λi=>ρ.cap (hK i),λi=>ρ.fO (hK i)⟩
def acM hK ρ:∀v,bP ρ (sub hK v)=bP (Eo hK ρ) v:=by
 intro v;induction v using sub.induct with
 | case1 a=>simp[fJ,Eo]
 | case2 a l c=>simp[fJ,jv,Eo]
 | case3 r=>simp[Eo]
 | case4 r=>rw[sub,bP,bP];rfl
 | case5 fn f c d e =>
  simp only[ang,MI,Gw];congr 1
  .exact j5 λv aE=>d v aE
  .exact j5 λv aE=>e v aE
 | case6 t v b=>simp[b]
 | case7 cs b=>simp only[ane,QK,Gw];congr 1;exact j5 λv aE=>b v aE
 | case8 cs b=>simp only[anf,MH,Gw];congr 1;exact j5 λv aE=>b v aE
 | case9 v=>rw[sub,bP,bP]<;>simp_all
def Q9{hK n}(h:∀i,i<n->hK i=i):∀v,bw n v->sub hK v=v:=by
 intro v;induction v using sub.induct with
 | case1 a=>intro I;simp only[Ed] at I;simp[h _ I]
 | case2 a l c=>intro I;simp only[vr] at I;simp[h _ I]
 | case3 r=>intro I;simp only[amx] at I;simp[h _ I]
 | case4 r=>intro I;rw[bw] at I;rw[sub,h _ I]
 | case5 fn f c yM wo =>
  intro I;simp only[JB] at I;simp only[ang];congr 1
  .conv=>rhs;rw[<-we f]
   exact U7
  .conv=>rhs;rw[<-we c]
   exact U6
 | case6 t v aP=>intro I;simp only[V5] at I;simp[aP I]
 | case7 cs aP =>
  intro I;simp only[qK] at I;simp only[ane];congr 1;conv=>rhs;rw[<-we cs]
  exact GK
 | case8 cs aP =>
  intro I;simp only[y2] at I;simp only[anf];congr 1;conv=>rhs;rw[<-we cs]
  exact GK
 | case9 v=>intro _;rw[sub]<;>simp_all
def oo(hK:Nat->Nat)(b:cd):cd:=⟨b.cells.map (sub hK),b.elem⟩
section
open Go
variable{ev:Operand->Value}
def bE.Wt{x t e f bL ag a n l d}(aH:o.op=.slice t x bL ag none)(aS:P.underlying t=some (.array n e))(k:P.info? e=some f)(aa:ev x=.pointer (some a))(m:xM ev bL 0 l)(i:xM ev ag n d)(J:l<=d)(r:d<=n)(aB:n<nw):
 bE P o ev h (.slice (some (if n=l then a else a.add (l*f.size))) (d-l) (n-l)) h :=
 .still (λI=>by
  have J:=I x ij;rw[aa] at J;rw[vr];split
  .exact p0
  .rw[xK];simpa using J) λρ W q _ he=>by
  have c:=he x ij;rw[aa] at c;have c:q x=.pointer (some (fJ ρ a)):=by simpa using c
  have I:=We (P:=P) (isS:=false) m i (λz s=>he z U9) (λz s=>he z Va) J r W;have j:∀b:Addr,jv ρ b (n-l)=n-l:=alF;simp only[execOp,aH,Instr.sliceAt,gG,kT aS,hj,c,Instr.sureAddr,Mc,I,sJ k,hQ,qJ,j];by_cases g:n=l
  .simp[g]
  .simp[g,Cm]
end
section
variable{ρ:eY}{W:World}
def db.Ep(aH:db G h ρ W)r c o(aE:∀b,r=some b->(∀v∈b.cells,bw (h.n+1) v)/\nW (ρ.add h.n W.heap.size c) h.n b (some o)) W'(k:W'.heap=W.heap.push o)(J:W'.tape=W.tape)(x:W'.os=W.os)(y:W'.output=W.output):
 db G ⟨λj=>if j=h.n then r else h.m j,h.n+1⟩ (ρ.add h.n W.heap.size c) W'/\Ext h ⟨λj=>if j=h.n then r else h.m j,h.n+1⟩ ρ (ρ.add h.n W.heap.size c) W W':=by
 have eS:=ρ.AJ h.n W.heap.size c;have q:∀c,c<W.heap.size->W'.heap[c]?=W.heap[c]?:=by
  intro c aB;rw[k,ajs,ai U]
 have w:W'.heap[W.heap.size]?=some o:=by rw[k];simp
 refine⟨⟨λi c ag=>?_,λi c ag=>?_,λi j c d l ag e a=>?_,λi c ag u hu=>?_,λg bf=>aa3,by simp only;have:=aH.kk;omega,aH.nx⟩,⟨eS,aF,λc t _=>q c t,by rw[k];simp,λi c l ag a=>?_,J,x,y,λi c z ag=>?_⟩⟩
 .simp only at ag;by_cases fh:i=h.n
  .subst fh;simp only[kB] at ag;have:=(aE _ ag).2;rw[show(ρ.add h.n W.heap.size _).bJ h.n=W.heap.size by simp[eY.add],w];exact dm
  .rw[ai fh] at ag;have s:=aH.lt _ _ ag;have A:=(aH.fa i c ag).hU eS s (aH.dP _ _ ag);rwa[(eS i s).1,q _ (aH.fa i c ag).lt]
 .simp only at ag|-;by_cases fh:i=h.n
  .exact U
  .rw[ai fh] at ag;have:=aH.lt _ _ ag;omega
 .simp only at ag e;by_cases fh:i=h.n<;>by_cases f:j=h.n
  .exact U
  .rw[ai f] at e;rw[fh,(eS j (aH.lt _ _ e)).1] at a;simp only[eY.add,kB] at a;have:=(aH.fa _ _ e).lt;omega
  .rw[ai fh] at ag;rw[f,(eS i (aH.lt _ _ ag)).1] at a;simp only[eY.add,kB] at a;have:=(aH.fa _ _ ag).lt;omega
  .rw[ai fh] at ag;rw[ai f] at e;rw[(eS i (aH.lt _ _ ag)).1,(eS j (aH.lt _ _ e)).1] at a;exact aH.inj _ _ _ _ l ag e a
 .simp only at ag|-;by_cases fh:i=h.n
  .subst fh;simp only[kB] at ag;exact(aE _ ag).1 u hu
  .exact akt
 .simp only at ag;by_cases fh:i=h.n
  .subst fh;simp[eY.add] at a
  .rw[ai fh] at ag;exact⟨i,c,l,ag,((eS i (aH.lt _ _ ag)).1).symm⟩
 .simp only at ag;rw[ai U] at ag;rw[q _ (aH.fa i c ag).lt];exact abW
def Er(W:World)(r:Nat)(o:Obj):World:={W with heap:=W.heap.setIfInBounds r o}
def db.anh(aH:db G h ρ W){i cs m}m'(hw:df<=i)(I:h.m i=some ⟨cs,iv m⟩):
 db G (h.set i ⟨#[],iv m'⟩) ρ (Er W (ρ.bJ i) (.map m'.es m'.hE))/\Ext h (h.set i ⟨#[],iv m'⟩) ρ ρ W (Er W (ρ.bJ i) (.map m'.es m'.hE)):=by
 have⟨he,y,t⟩:=(aH.fa _ _ I).map hw;have l:∀c,c≠ρ.bJ i->(Er W (ρ.bJ i) (.map m'.es m'.hE)).heap[c]?=W.heap[c]?:=by
  intro c z;simp only[Er,PT,ai (PO z)]
 have s:(Er W (ρ.bJ i) (.map m'.es m'.hE)).heap[ρ.bJ i]?=some (.map m'.es m'.hE):=by
  simp[Er,(Ar.1 he).1]
 refine⟨⟨λj c aA=>?_,λj c aA=>?_,λj k c d g aA aj A=>?_,λj c aA u hu=>?_,aH.fu,aH.kk,aH.nx⟩,⟨λ_ _=>⟨rfl,rfl,rfl⟩,b4 _,λc r ak=>l c (λe=>ak _ _ hw I e.symm),by simp[Er],λj c g aA _=>?_,rfl,rfl,rfl,λj c B aA=>?_⟩⟩
 .simp only[aV.set] at aA;by_cases a:j=i
  .subst a;simp only[kB,dh] at aA;subst aA;exact .inr ⟨m',s,rfl,rfl,t⟩
  .rw[ai a] at aA;rw[l _ (λe=>a (aH.inj _ _ _ _ hw I aA e.symm).symm)];exact aH.fa j c aA
 .simp only[aV.set] at aA|-;by_cases a:j=i
  .subst a;exact aH.lt _ _ I
  .rw[ai a] at aA;exact aH.lt _ _ aA
 .simp only[aV.set] at aA aj;have x:∃f,h.m j=some f:=by
   by_cases a:j=i
   .subst a;exact⟨_,I⟩
   .rw[ai a] at aA;exact⟨c,aA⟩
  have w:∃f,h.m k=some f:=by
   by_cases q:k=i
   .subst q;exact⟨_,I⟩
   .rw[ai q] at aj;exact⟨d,aj⟩
  have⟨f,r⟩:=x;have⟨C,v⟩:=w;exact aH.inj _ _ _ _ g r v A
 .simp only[aV.set] at aA|-;by_cases a:j=i
  .subst a;simp only[kB,dh] at aA;subst aA;simp at hu
  .rw[ai a] at aA;exact aH.dP _ _ aA u hu
 .simp only[aV.set] at aA;by_cases a:j=i
  .subst a;exact⟨_,_,hw,I,rfl⟩
  .rw[ai a] at aA;exact⟨j,c,g,aA,rfl⟩
 .simp only[aV.set] at aA;by_cases a:j=i
  .subst a;simp only[kB,dh] at aA;subst aA;exact⟨_,I,by simp[y],.inr (.inr ⟨_,_,_,_,he,s⟩)⟩
  .rw[ai a] at aA;rw[l _ (λe=>a (aH.inj _ _ _ _ hw I aA e.symm).symm)];exact abV
end
abbrev rL:=Nat×List Int
def mB(r:rL):Int:=r.2.headD 0
def qe(n:Int):List rL->Nat->Option (Nat×rL)
 | [],_=>none
 | r::l,i=>if n=mB r then some (i,r) else qe n l (i+1)
def JS{n}:∀{l:List rL}{i j:Nat}{r:rL},qe n l i=some (j,r)->i<=j/\l[j-i]?=some r/\n=mB r:=by
 intro l;induction l with
 | nil=>intro i j r h;cases h
 | cons a l c =>
  intro i j r h;rw[qe] at h;split at h
  .injection h with h;injection h with J b;subst J;subst b;exact⟨b4 _,aF,h3⟩
  .have⟨J,b,d⟩:=c h;refine⟨U,?_,d⟩;rwa[show j-i=(j-(i+1))+1 by omega]
def ani(r:rL):(sE 0 r).key=.int .i64 (mB r):=rfl
def az2 n:∀(l:List rL) (i:Nat),Instr.findNow (.int .i64) (.int .i64 n) (l.map (sE 0)) i=some ((qe n l i).map λx=>(x.1,(sE 0 x.2).val)):=by
 intro l;induction l with
 | nil=>intro i;rfl
 | cons r l a =>
  intro i;rw[gg,Instr.findNow,qe,ani];simp only[Instr.sameNow,kB];by_cases h:n=mB r
  .subst h;simp
  .have:(n==mB r)=false:=lM;rw[this,ai h];exact a (i+1)
def MU(m:gm):m.es.toList=m.eN.map (sE m.s):=rfl
def run_findKey{a}{m:gm}(aC:m.s=0)(aj:P.underlying a=some (.int .i64))n W:(Instr.findKey a (.int .i64 n) m.es.toList).run P W=.ok ((qe n m.eN 0).map λx=>(x.1,(sE 0 x.2).val)) W:=by
 simp only[Instr.findKey,gG,kT aj,hj,MU,aC,az2,hQ]
def run_checkKey{a}(aj:P.underlying a=some (.int .i64))b n W:(Instr.checkKey b 10000 a (.int .i64 n)).run P W=.ok () W:=by
 rw[show(10000:Nat)=9999+1 from rfl,Instr.checkKey,gG,kT aj,hj];simp
def acN{W r b a}(I:W.heap[r]?=some (.map b a)):(getObj r).run P W=.ok (.map b a) W:=by
 simp[getObj,Sem.run,I]
def Wu{W r b a}o(I:W.heap[r]?=some (.map b a)):(setObj r o).run P W=.ok () (Er W r o):=by
 simp[setObj,Sem.run,I,Er]
def gm.get(m:gm)(z:Value)(n:Int):Value:=match qe n m.eN 0 with
 | some x=>.tuple #[(sE 0 x.2).val,.bool true]
 | none=>.tuple #[z,.bool false]
def gm.put(m:gm)(row:List Int):gm:=match qe (row.headD 0) m.eN 0 with
 | some x=>{m with eN:=m.eN.modify x.1 λe=>(e.1,row)}
 | none=>{m with eN:=m.eN++[(m.hE,row)],hE:=m.hE+1}
def gm.del(m:gm)(n:Int):gm:=match qe n m.eN 0 with
 | some x=>{m with eN:=m.eN.eraseIdx x.1}
 | none=>m
def acO s(r:rL):bw 0 (sE s r).val:=(amz s r.2).2
section
variable{ev:Operand->Value}
def bE.lookup{t d b x y i cs m n k z}(aH:o.op=.lookup t x y true)(aS:P.underlying t=some (.map d b))(aj:P.underlying d=some (.int .i64))(ag:P.info? b=some k)(A:k.zero=some z)(e:bw 0 z)(aa:ev x=.map (some i))(w:ev y=.int .i64 n)(hw:df<=i)(I:h.m i=some ⟨cs,iv m⟩)(aC:m.s=0):bE P o ev h (m.get z n) h :=
 .still (λ_=>by
  refine hc (dG _) _ ?_;unfold gm.get;split
  .rename_i x aa;have:=acO 0 x.2;simp only[y2];intro v aE;simp only[uo,dI,jP,j6] at aE;rcases aE with rfl|rfl
   .exact dm
   .exact aF
  .simp only[y2];intro v aE;simp only[uo,dI,jP,j6] at aE;rcases aE with rfl|rfl
   .exact e
   .simp) λρ W C u he=>by
  have j:=he x ij;have g:=he y ij;rw[aa,ace] at j;rw[w,Eb] at g;have⟨hm,_,_⟩:=(u.fa _ _ I).map hw;have q:bP ρ (m.get z n)=m.get z n:=by
   unfold gm.get;split
   .rename_i x aa;simp[rE ρ _ (acO 0 x.2)]
   .simp[rE ρ _ e]
  rw[q];simp only[execOp,aH,j,g,Instr.lookup,gG,kT aS,hj,acN hm,hQ,run_checkKey aj,run_findKey aC aj];unfold gm.get;cases B:qe n m.eN 0 with
  | none=>simp[QP ag A]
  | some x=>simp
def bE.delete{t a e r x y i cs m n}(aH:o.op=.call {callee:=.builtin .delete,args:=#[x,y],argTypes:=#[t,r]})(aS:P.underlying t=some (.map a e))(aj:P.underlying a=some (.int .i64))(aa:ev x=.map (some i))(q:ev y=.int .i64 n)(hw:df<=i)(I:h.m i=some ⟨cs,iv m⟩)(aC:m.s=0):bE P o ev h (.tuple #[]) (h.set i ⟨#[],iv (m.del n)⟩) :=
 .value λ_ ρ W u d he=>by
  have c:=he x wj;have b:=he y wj;rw[aa,ace] at c;rw[q,Eb] at b;have⟨hm,_,_⟩:=(d.fa _ _ I).map hw;have⟨g,k⟩:=d.anh (m.del n) hw I;refine⟨ρ,_,?_,aF,g,k⟩;simp only[execOp,aH,resolve,invoke,builtin,gG,hQ,hj,so,gg,oH,c,b,Builtin.delete_,DQ,kC,pg,kT aS,acN hm,run_checkKey aj,run_findKey aC aj,MH,so,oH];unfold gm.del;cases f:qe n m.eN 0 with
  | none=>simp only[Mc,gG,Wu _ hm,hj,hQ]
  | some x =>
   have⟨J,l,w⟩:=JS f;have v:=(cS.1 l).1;have he:m.es.eraseIdxIfInBounds x.1=({m with eN:=m.eN.eraseIdx x.1}:gm).es:=by
    unfold Array.eraseIdxIfInBounds;rw[dif_pos (by simp[gm.es];omega)];apply k3;apply kg;intro j;simp only[gm.es,Array.toList_eraseIdx,List.getElem?_eraseIdx,gf];split<;>rfl
   simp only[iW,he,gG,Wu _ hm,hj,hQ]
def bE.mapUpdate{t g B x y w i cs m row}(aH:o.op=.mapUpdate t x y w)(aS:P.underlying t=some (.map g B))(aj:P.underlying g=some (.int .i64))(aa:ev x=.map (some i))(F:ev y=.int .i64 (row.headD 0))(aE:ev w=(y3 0 row).2)(hw:df<=i)(I:h.m i=some ⟨cs,iv m⟩)(aC:m.s=0):bE P o ev h undef (h.set i ⟨#[],iv (m.put row)⟩) :=
 .done λ_ ρ W M A he=>by
  have u:=he x ij;have q:=he y ij;have k:=he w ij;rw[aa,ace] at u;rw[F,Eb] at q;rw[aE,rE ρ _ (amz 0 row).2] at k;have⟨hm,_,_⟩:=(A.fa _ _ I).map hw;have⟨D,E⟩:=A.anh (m.put row) hw I;refine⟨ρ,_,?_,D,E⟩;simp only[execOp,aH,u,q,k,Instr.mapUpdate,gG,kT aS,hj,acN hm,run_checkKey aj,run_findKey aC aj];unfold gm.put;cases C:qe (row.headD 0) m.eN 0 with
  | none =>
   simp only[Mc,Wu _ hm,hj,hQ];congr 3;simp[gm.es,sE,aC,y3]
  | some x =>
   have⟨J,z,H⟩:=JS C;have L:((m.es[x.1]?).map (·.key)).getD (.int .i64 (row.headD 0))=.int .i64 (row.headD 0):=by
    have:m.es[x.1]?=some (sE m.s x.2):=by
     simp only[gm.es,DQ,gf];rw[yF] at z;rw[z];rfl
    rw[this,aC,H];rfl
   have d:(Instr.keyThatStays (.int .i64 (row.headD 0)) (.int .i64 (row.headD 0))).run P W=.ok (.int .i64 (row.headD 0)) W:=by
    simp[Instr.keyThatStays,Instr.sameBits]
   have b:(m.es.modify x.1 λe=>{e with key:=.int .i64 (row.headD 0),val:=(y3 0 row).2})=({m with eN:=m.eN.modify x.1 λe=>(e.1,row)}:gm).es:=by
    apply k3;apply kg;intro j;simp only[gm.es,Array.toList_modify,PW,gf,aC];cases m.eN[j]? with
    | none=>rfl
    | some e=>by_cases K:x.1=j<;>simp[K,sE,y3]
   simp only[iW,gG,L,d,b,Wu _ hm,hj,hQ]
def bE.makeMap{t}(aH:o.op=.makeMap t none):bE P o ev h (.map (some h.n)) (h.push ⟨#[],iv ⟨0,0,[]⟩⟩) :=
 .value λ_ ρ W f e he=>by
  have⟨a,d⟩:=e.Ep (some ⟨#[],iv ⟨0,0,[]⟩⟩) 0 (.map #[] 0) (λb I=>by
   injection I with I;subst I;exact⟨aF,.inr ⟨_,rfl,rfl,rfl,Jo⟩⟩) {W with heap:=W.heap.push (.map #[] 0)} rfl rfl rfl rfl
  refine⟨_,_,?_,Ca,a,d⟩;simp[execOp,aH,Instr.makeMap,eY.add]
end
end Go.AH
