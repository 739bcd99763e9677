/-
  What the functions that the law reaches compute,told by plain data;it holds of programs that pass the check of right form and are light.
-/
import Derived.KernelRfl
import Derived.Test.YtjhloakacicdiaaDoorRows
import Derived.Test.YtjhloakacicdiaaDoorS1
import Derived.Test.YtjhloakacicdiaaDoorS2
set_option linter.unusedVariables false
set_option linter.unusedSimpArgs false
namespace Go.Proofs.YtjhloakacicdiaaDoor
open Go.AH
structure Y0q (q:Prop):Prop where
 a:q
theorem YD {p q r:Prop} (h1:q) (h2:r) (h:Y0q q→Y0q r→p:=by intro zq1 zq2;(first|((with_reducible apply RS.splitD);(iterate 2 exact rfl))|fail);exact zq1.1;exact zq2.1):p:=h ⟨h1⟩ ⟨h2⟩
theorem YG {p q r:Prop} (h1:q) (h2:r) (h:Y0q q→Y0q r→p:=by intro zq1 zq2;(first|((with_reducible apply RS.splitG);(iterate 2 exact rfl);(fail_if_success exact fun h=>nomatch (h:true=false));(fail_if_success exact fun h=>nomatch (h:false=true)))|fail);exact zq1.1;(fail_if_success exact fun h=>nomatch (h:true=false));(fail_if_success exact fun h=>nomatch (h:false=true));exact zq2.1):p:=h ⟨h1⟩ ⟨h2⟩
theorem YC {p q r:Prop} (h1:q) (h2:r) (h:Y0q q→Y0q r→p:=by intro zq1 zq2;(first|((with_reducible apply W.condD);exact rfl)|fail);exact zq1.1;exact zq2.1):p:=h ⟨h1⟩ ⟨h2⟩
theorem YN {p q r:Prop} (h1:q) (h2:r) (h:Y0q q→Y0q r→p:=by intro zq1 zq2;(first|((with_reducible apply W.cond);exact rfl;(fail_if_success exact fun h=>nomatch (h:true=false));(fail_if_success exact fun h=>nomatch (h:false=true)))|fail);exact zq1.1;(fail_if_success exact fun h=>nomatch (h:true=false));(fail_if_success exact fun h=>nomatch (h:false=true));exact zq2.1):p:=h ⟨h1⟩ ⟨h2⟩
theorem Y0 {p q:Prop} (hq:q) (h:Y0q q→p:=by intro zq;(first|((with_reducible apply RS.nil);exact mixed;kernel_rfl)|fail);exact zq.1):p:=h ⟨hq⟩
theorem Y1 {p q:Prop} (hq:q) (h:Y0q q→p:=by intro zq;(first|((with_reducible apply W.reg);kernel_rfl)|fail);exact zq.1):p:=h ⟨hq⟩
theorem Y2 {p q:Prop} (hq:q) (h:Y0q q→p:=by intro zq;(first|((with_reducible apply RS.cmpF);(iterate 4 exact rfl);(simp only [cmpN];omega))|fail);exact zq.1):p:=h ⟨hq⟩
theorem Y3 {p q:Prop} (hq:q) (h:Y0q q→p:=by intro zq;(first|((with_reducible apply RS.cmpT);(iterate 4 exact rfl);(simp only [cmpP];omega))|fail);exact zq.1):p:=h ⟨hq⟩
theorem Y4 {p q:Prop} (hq:q) (h:Y0q q→p:=by intro zq;(first|((with_reducible apply RS.store);(iterate 5 exact rfl);exact Nat.le_of_ble_eq_true rfl;(iterate 3 exact rfl))|fail);exact zq.1):p:=h ⟨hq⟩
theorem Y5 {p q:Prop} (hq:q) (h:Y0q q→p:=by intro zq;(first|((with_reducible apply W.condT);kernel_rfl;exact rfl)|fail);exact zq.1):p:=h ⟨hq⟩
theorem Y6 {p q:Prop} (hq:q) (h:Y0q q→p:=by intro zq;(first|((with_reducible apply W.condF);kernel_rfl;exact rfl)|fail);exact zq.1):p:=h ⟨hq⟩
theorem Y7 {p q:Prop} (hq:q) (h:Y0q q→p:=by intro zq;(first|((with_reducible apply RS.load1);(iterate 6 exact rfl))|fail);exact zq.1):p:=h ⟨hq⟩
theorem Y8 {p q:Prop} (hq:q) (h:Y0q q→p:=by intro zq;(first|((with_reducible apply RS.loadN);(iterate 5 exact rfl);exact Nat.le_of_ble_eq_true rfl)|fail);exact zq.1):p:=h ⟨hq⟩
theorem Y9 {p q:Prop} (hq:q) (h:Y0q q→p:=by intro zq;(first|((with_reducible first|apply RS.move|apply RS.assign|apply RS.fieldAddr);(iterate 3 exact rfl))|fail);exact zq.1):p:=h ⟨hq⟩
theorem Ya {p q:Prop} (hq:q) (h:Y0q q→p:=by intro zq;(first|((with_reducible apply RS.indexAddrS);(iterate 5 exact rfl);omega)|fail);exact zq.1):p:=h ⟨hq⟩
theorem Yb {p q:Prop} (hq:q) (h:Y0q q→p:=by intro zq;(first|((with_reducible apply RS.pickF);(iterate 4 exact rfl))|fail);exact zq.1):p:=h ⟨hq⟩
theorem Yc {p q:Prop} (hq:q) (h:Y0q q→p:=by intro zq;(first|((with_reducible apply RS.callR false [5,6]);(iterate 3 exact rfl);exact fun H hH=>arg_tf x.a regs _ _ _ H hrl (hH.l 5 rfl (by simp)) rfl (hH.l 6 rfl (by simp));exact Nm_free (by simp))|fail);exact zq.1):p:=h ⟨hq⟩
theorem Yd {p q:Prop} (hq:q) (h:Y0q q→p:=by intro zq;(first|((with_reducible apply RS.add1);(iterate 4 exact rfl);omega)|fail);exact zq.1):p:=h ⟨hq⟩
theorem Ye {p q:Prop} (hq:q) (h:Y0q q→p:=by intro zq;(first|((with_reducible first|apply W.seq|apply W.block|apply W.skip|apply thenK_n|apply blockK_n))|fail);exact zq.1):p:=h ⟨hq⟩
theorem Yf {p q:Prop} (hq:q) (h:Y0q q→p:=by intro zq;(first|((with_reducible apply RS.alloc);(iterate 2 exact rfl))|fail);exact zq.1):p:=h ⟨hq⟩
theorem Yg {p q:Prop} (hq:q) (h:Y0q q→p:=by intro zq;(first|((with_reducible apply RS.load1B);(iterate 3 exact rfl);exact hX;exact hXn;(first|exact take_nth (j:=0) hXv rfl|exact take_nth (j:=1) hXv rfl|exact take_nth (j:=6) hXv rfl|exact take_nth (j:=9) hXv rfl|exact take_nth (j:=7) hXv rfl|exact take_nth (j:=10) hXv rfl))|fail);exact zq.1):p:=h ⟨hq⟩
theorem Yh {p q:Prop} (hq:q) (h:Y0q q→p:=by intro zq;(first|((with_reducible first|apply RS.move|apply RS.assign);(iterate 3 exact rfl))|fail);exact zq.1):p:=h ⟨hq⟩
theorem Yi {p q:Prop} (hq:q) (h:Y0q q→p:=by intro zq;(first|((with_reducible apply RS.buildSlice);(iterate 8 exact rfl))|fail);exact zq.1):p:=h ⟨hq⟩
theorem Yj {p q:Prop} (hq:q) (h:Y0q q→p:=by intro zq;(first|((with_reducible first|apply RS.nilCheck|apply RS.move|apply RS.assign|apply RS.lenSl|apply RS.fieldAddr);(iterate 3 exact rfl))|fail);exact zq.1):p:=h ⟨hq⟩
theorem Yk {p q:Prop} (hq:q) (h:Y0q q→p:=by intro zq;(first|((with_reducible apply RS.pickT);(iterate 4 exact rfl))|fail);exact zq.1):p:=h ⟨hq⟩
theorem Yl {p q:Prop} (hq:q) (h:Y0q q→p:=by intro zq;(first|((with_reducible apply blockK_hit);exact rfl)|fail);exact zq.1):p:=h ⟨hq⟩
theorem Ym {p q:Prop} (hq:q) (h:Y0q q→p:=by intro zq;(first|((with_reducible apply RS.cmpC);(iterate 5 exact rfl))|fail);exact zq.1):p:=h ⟨hq⟩
theorem Yn {p q:Prop} (hq:q) (h:Y0q q→p:=by intro zq;(first|((with_reducible apply RS.skip);(iterate 2 exact rfl))|fail);exact zq.1):p:=h ⟨hq⟩
theorem Yo {p q:Prop} (hq:q) (h:Y0q q→p:=by intro zq;(first|((with_reducible apply (RS.callO (vs:=[]) [0,1,2,3,4] 0));(iterate 2 exact rfl);exact step_to B pb hpb s hst;(iterate 2 exact rfl);exact ⟨rfl,rfl,rfl,rfl,rfl,trivial⟩;exact step_fresh _ _ _)|fail);exact zq.1):p:=h ⟨hq⟩
theorem Yp {p q:Prop} (hq:q) (h:Y0q q→p:=by intro zq;(first|((with_reducible apply RS.callR false [5,6]);(iterate 3 exact rfl);exact fun H hH=>arg_tf x.b regs _ _ _ H hrl (hH.l 5 rfl (by simp)) rfl (hH.l 6 rfl (by simp));exact Nm_free (by simp))|fail);exact zq.1):p:=h ⟨hq⟩
theorem Yq {p q:Prop} (hq:q) (h:Y0q q→p:=by intro zq;(first|((with_reducible apply RS.loadNB);(iterate 3 exact rfl);exact hX;exact hXn;omega;(first|exact takeV_sub (j:=2) (n:=2) hXv (by omega)|exact takeV_sub (j:=4) (n:=2) hXv (by omega)))|fail);exact zq.1):p:=h ⟨hq⟩
theorem Yr {p q:Prop} (hq:q) (h:Y0q q→p:=by intro zq;(first|((with_reducible apply RS.load1B);(iterate 3 exact rfl);exact hX;exact hXn;exact rfl)|fail);exact zq.1):p:=h ⟨hq⟩
theorem Ys {p q:Prop} (hq:q) (h:Y0q q→p:=by intro zq;(first|((with_reducible first|apply RS.nilCheck|apply RS.move|apply RS.assign|apply RS.not|apply RS.fieldAddr);(iterate 3 exact rfl))|fail);exact zq.1):p:=h ⟨hq⟩
theorem Yt {p q:Prop} (hq:q) (h:Y0q q→p:=by intro zq;(first|((with_reducible apply RS.bin);(iterate 5 exact rfl))|fail);exact zq.1):p:=h ⟨hq⟩
theorem Yu {p q:Prop} (hq:q) (h:Y0q q→p:=by intro zq;(first|((with_reducible apply RS.binFit);(iterate 5 exact rfl);omega)|fail);exact zq.1):p:=h ⟨hq⟩
theorem Yv {p q:Prop} (hq:q) (h:Y0q q→p:=by intro zq;(first|((with_reducible apply RS.storeB);(iterate 3 exact rfl);(first|exact hA|exact setS_self _ _ _);exact hAn;exact haw;(simp only [u8s,List.length_map,List.length_set];omega);(iterate 2 exact rfl);exact setL_u8s _ _ _)|fail);exact zq.1):p:=h ⟨hq⟩
theorem Yw {p q:Prop} (hq:q) (h:Y0q q→p:=by intro zq;(first|((with_reducible apply RS.callR false [0]);(iterate 3 exact rfl);exact fun H hH=>ok_tf _ _ _ H (hH.l 0 rfl (by simp)) rfl;exact Nm_free (by simp))|fail);exact zq.1):p:=h ⟨hq⟩
theorem Yx {p q:Prop} (hq:q) (h:Y0q q→p:=by intro zq;(first|((with_reducible first|apply W.seq|apply W.block|apply W.ret|apply W.skip|apply thenK_n|apply thenK_r|apply blockK_n|apply blockK_r))|fail);exact zq.1):p:=h ⟨hq⟩
theorem Yy {p q:Prop} (hq:q) (h:Y0q q→p:=by intro zq;(first|((with_reducible apply RS.store);(iterate 5 exact rfl);(rw [show (intsC regs).length=regs.length from List.length_map ..];omega);(iterate 2 exact rfl);exact setL_ints _ _ _)|fail);exact zq.1):p:=h ⟨hq⟩
theorem Yz {p q:Prop} (hq:q) (h:Y0q q→p:=by intro zq;(first|((with_reducible apply RS.callR true []);(iterate 3 exact rfl);exact fun H hH=>(show TF _ _ _ H (.bool false) H by rw [← htw];exact two_tf x.op H);exact Nm_free (by simp))|fail);exact zq.1):p:=h ⟨hq⟩
theorem Y10 {p q:Prop} (hq:q) (h:Y0q q→p:=by intro zq;(first|((with_reducible apply RS.loadNB);(iterate 3 exact rfl);exact hX;exact hXn;exact Nat.le_of_ble_eq_true rfl;exact rfl)|fail);exact zq.1):p:=h ⟨hq⟩
theorem Y11 {p q:Prop} (hq:q) (h:Y0q q→p:=by intro zq;(first|((with_reducible apply RS.build);(iterate 4 exact rfl))|fail);exact zq.1):p:=h ⟨hq⟩
theorem Y12 {p q:Prop} (hq:q) (h:Y0q q→p:=by intro zq;(first|((with_reducible first|apply W.seq|apply W.block|apply W.ret|apply W.skip|apply thenK_n|apply thenK_r|apply blockK_n))|fail);exact zq.1):p:=h ⟨hq⟩
theorem Y13 {p q:Prop} (hq:q) (h:Y0q q→p:=by intro zq;(first|(with_reducible apply thenK_n)|fail);exact zq.1):p:=h ⟨hq⟩
theorem Y14 {p q:Prop} (hq:q) (h:Y0q q→p:=by intro zq;(first|((with_reducible first|apply RS.move|apply RS.assign|apply RS.convI);(iterate 3 exact rfl))|fail);exact zq.1):p:=h ⟨hq⟩
theorem Y15 {p q:Prop} (hq:q) (h:Y0q q→p:=by intro zq;(first|((with_reducible apply RS.assign);(iterate 3 exact rfl))|fail);exact zq.1):p:=h ⟨hq⟩
theorem Y16 {p q:Prop} (hq:q) (h:Y0q q→p:=by intro zq;(first|((with_reducible first|apply RS.move|apply RS.fieldAddr);(iterate 3 exact rfl))|fail);exact zq.1):p:=h ⟨hq⟩
theorem Y17 {p q:Prop} (hq:q) (h:Y0q q→p:=by intro zq;(first|((with_reducible apply RS.strAdd);(iterate 4 exact rfl);((try simp only [ByteArray.size_append]);(try simp only [sz_lit,List.length_cons,List.length_nil]);omega))|fail);exact zq.1):p:=h ⟨hq⟩
theorem Y18 {p q:Prop} (hq:q) (h:Y0q q→p:=by intro zq;(first|((with_reducible first|apply W.seq|apply W.block|apply W.ret|apply thenK_n|apply thenK_r|apply blockK_r))|fail);exact zq.1):p:=h ⟨hq⟩
theorem Y19 {p q:Prop} (hq:q) (h:Y0q q→p:=by intro zq;(first|((with_reducible first|apply RS.nilCheck|apply RS.move|apply RS.assign|apply RS.fieldAddr);(iterate 3 exact rfl))|fail);exact zq.1):p:=h ⟨hq⟩
theorem Y1a {p q:Prop} (hq:q) (h:Y0q q→p:=by intro zq;(first|((with_reducible first|apply RS.assign|apply RS.fieldAddr|apply RS.box);(iterate 3 exact rfl))|fail);exact zq.1):p:=h ⟨hq⟩
theorem Y1b {p q:Prop} (hq:q) (h:Y0q q→p:=by intro zq;(first|((with_reducible apply RS.indexAddrS);(iterate 4 exact rfl);exact (Int.toNat_of_nonneg (by omega)).symm;omega)|fail);exact zq.1):p:=h ⟨hq⟩
theorem Y1c {p q:Prop} (hq:q) (h:Y0q q→p:=by intro zq;(first|((with_reducible apply RS.strAdd);(iterate 4 exact rfl);((try simp only [ByteArray.size_append]);simp only [ByteArray.size,List.size_toArray,List.length_cons,List.length_nil];omega))|fail);exact zq.1):p:=h ⟨hq⟩
theorem Y1d {p q:Prop} (hq:q) (h:Y0q q→p:=by intro zq;(first|((with_reducible apply (RS.sliceSL (b:=π2 1) (L:=a.toNat) (H:=a.toNat+m) (off':=(if n=a.toNat then 0 else 0+a.toNat * 1))));(iterate 3 exact rfl);exact ⟨_,_,rfl,ha⟩;exact ⟨_,_,rfl,(show a+x.n=_ by omega)⟩;omega;omega;(show _ < 18446744073709551616;omega);exact rfl)|fail);exact zq.1):p:=h ⟨hq⟩
theorem Y1e {p q:Prop} (hq:q) (h:Y0q q→p:=by intro zq;(first|((with_reducible first|apply W.seq|apply W.block|apply thenK_n))|fail);exact zq.1):p:=h ⟨hq⟩
theorem Y1f {p q:Prop} (hq:q) (h:Y0q q→p:=by intro zq;(first|((with_reducible apply RS.load1B);(iterate 3 exact rfl);exact hX;exact hXn;(first|exact take_nth (j:=0) hXv rfl|exact take_nth (j:=9) hXv rfl|exact take_nth (j:=11) hXv rfl))|fail);exact zq.1):p:=h ⟨hq⟩
theorem Y1g {p q:Prop} (hq:q) (h:Y0q q→p:=by intro zq;(first|((with_reducible apply RS.callA);(iterate 3 exact rfl);first|exact fun B' hB'=>hty B' (Nat.le_trans hle8 hB'.le)|exact fun B' hB'=>find_tf y3 Ax cx B' N bb mb s hwl (o8.up hB'.up)|exact fun B' hB'=>find_tf x3 Ax cx B' N bb mb s hwl (o8.up hB'.up))|fail);exact zq.1):p:=h ⟨hq⟩
theorem Y1h {p q:Prop} (hq:q) (h:Y0q q→p:=by intro zq;(first|((with_reducible apply RS.storeB);(iterate 3 exact rfl);exact hR;exact hRn;exact hRw;exact Nat.le_of_ble_eq_true rfl;(iterate 3 exact rfl))|fail);exact zq.1):p:=h ⟨hq⟩
theorem Y1i {p q:Prop} (hq:q) (h:Y0q q→p:=by intro zq;(first|((with_reducible apply (RS.appendRow (w:=leakW) (l0:=s.leaks) (q:=⟨4,argS regs x.a,0⟩)));(iterate 11 exact rfl);exact Nat.le_of_ble_eq_true rfl;exact fun _=>rfl;exact rfl;omega;omega)|fail);exact zq.1):p:=h ⟨hq⟩
theorem Y1j {p q:Prop} (hq:q) (h:Y0q q→p:=by intro zq;(first|((with_reducible first|apply W.seq|apply W.ret|apply thenK_n))|fail);exact zq.1):p:=h ⟨hq⟩
theorem Y1k {p q:Prop} (hq:q) (h:Y0q q→p:=by intro zq;(first|((with_reducible apply (RS.quoN (b:=100)));(iterate 4 exact rfl);omega;(first|exact wrap32 (by omega)|exact wrap64 (by omega)))|fail);exact zq.1):p:=h ⟨hq⟩
theorem Y1l {p q:Prop} (hq:q) (h:Y0q q→p:=by intro zq;(first|((with_reducible apply (RS.callO (vs:=[]) [0,1,9,3,4] 0));(iterate 2 exact rfl);exact stop_to _ pb hpb (leakS s ⟨4,argS regs x.a,0⟩) 43;(iterate 2 exact rfl);exact ⟨rfl,rfl,rfl,rfl,rfl,trivial⟩;exact stop_fresh _ _ _ _)|fail);exact zq.1):p:=h ⟨hq⟩
theorem Y1m {p q:Prop} (hq:q) (h:Y0q q→p:=by intro zq;(first|((with_reducible apply RS.loadNB);(iterate 3 exact rfl);exact hQ;exact hQn;exact hQl;exact hQv)|fail);exact zq.1):p:=h ⟨hq⟩
theorem Y1n {p q:Prop} (hq:q) (h:Y0q q→p:=by intro zq;(first|((with_reducible apply (RS.makeSliceF (n:=stk.length) (kx:=.i64) (ky:=.i64) (cs:=bytesC stk)));(iterate 2 exact rfl);exact (show some (Value.int IntKind.i64 416000)=some (Value.int IntKind.i64 (stk.length:Int)) from by rw [hlen];rfl);exact (show some (Value.int IntKind.i64 416000)=some (Value.int IntKind.i64 (stk.length:Int)) from by rw [hlen];rfl);(iterate 2 exact rfl);(rw [hlen];decide);exact hrep;exact bytes_free stk)|fail);exact zq.1):p:=h ⟨hq⟩
theorem Y1o {p q:Prop} (hq:q) (h:Y0q q→p:=by intro zq;(first|((with_reducible first|apply RS.nilCheck|apply RS.move|apply RS.assign|apply RS.lenSl|apply RS.fieldAddr|apply RS.box);(iterate 3 exact rfl))|fail);exact zq.1):p:=h ⟨hq⟩
theorem Y1p {p q:Prop} (hq:q) (h:Y0q q→p:=by intro zq;(first|((with_reducible apply (RS.mulN (b:=2)));(iterate 4 exact rfl);(first|exact wrap32 (by omega)|exact wrap64 (by omega)))|fail);exact zq.1):p:=h ⟨hq⟩
theorem Y1q {p q:Prop} (hq:q) (h:Y0q q→p:=by intro zq;(first|((with_reducible apply (RS.addN (b:=1)));(iterate 4 exact rfl);(first|exact wrap32 (by omega)|exact wrap64 (by omega)))|fail);exact zq.1):p:=h ⟨hq⟩
theorem Y1r {p q:Prop} (hq:q) (h:Y0q q→p:=by intro zq;(first|((with_reducible first|apply W.seq|apply W.exit|apply W.ret|apply thenK_n|apply thenK_e|apply roundK_e))|fail);exact zq.1):p:=h ⟨hq⟩
theorem Y1s {p q:Prop} (hq:q) (h:Y0q q→p:=by intro zq;(first|((with_reducible apply (RS.callO (vs:=[]) [0,1,2,3,4] 0));(iterate 2 exact rfl);exact step_to B pb hpb s2 hs2;(iterate 2 exact rfl);exact ⟨rfl,rfl,rfl,rfl,rfl,trivial⟩;exact step_fresh _ _ _)|fail);exact zq.1):p:=h ⟨hq⟩
theorem Y1t {p q:Prop} (hq:q) (h:Y0q q→p:=by intro zq;(first|((with_reducible apply RS.loadNB);(iterate 3 exact rfl);exact hG;exact hGn;exact hGl;exact hGv)|fail);exact zq.1):p:=h ⟨hq⟩
theorem Y1u {p q:Prop} (hq:q) (h:Y0q q→p:=by intro zq;(first|((with_reducible first|apply W.seq|apply W.skip|apply thenK_n))|fail);exact zq.1):p:=h ⟨hq⟩
theorem Y1v {p q:Prop} (hq:q) (h:Y0q q→p:=by intro zq;(first|((with_reducible first|apply W.seq|apply W.block|apply W.ret|apply W.skip|apply thenK_n|apply thenK_r|apply blockK_n|apply blockK_r|apply roundK_r))|fail);exact zq.1):p:=h ⟨hq⟩
theorem Y1w {p q:Prop} (hq:q) (h:Y0q q→p:=by intro zq;(first|((with_reducible first|apply W.seq|apply W.exit|apply W.skip|apply thenK_n|apply thenK_e|apply roundN_e))|fail);exact zq.1):p:=h ⟨hq⟩
theorem Y1x {p q:Prop} (hq:q) (h:Y0q q→p:=by intro zq;(first|((with_reducible first|apply W.seq|apply W.exit|apply W.ret|apply thenK_n|apply thenK_e|apply roundN_e))|fail);exact zq.1):p:=h ⟨hq⟩
theorem Y1y {p q:Prop} (hq:q) (h:Y0q q→p:=by intro zq;(first|((with_reducible first|apply W.seq|apply W.block|apply W.skip|apply thenK_n))|fail);exact zq.1):p:=h ⟨hq⟩
theorem Y1z {p q:Prop} (hq:q) (h:Y0q q→p:=by intro zq;(first|((with_reducible first|apply W.seq|apply W.ret|apply thenK_n|apply thenK_r))|fail);exact zq.1):p:=h ⟨hq⟩
theorem Y20 {p q:Prop} (hq:q) (h:Y0q q→p:=by intro zq;(first|((with_reducible first|apply RS.nilCheck|apply RS.move|apply RS.fieldAddr);(iterate 3 exact rfl))|fail);exact zq.1):p:=h ⟨hq⟩
theorem Y21 {p q:Prop} (hq:q) (h:Y0q q→p:=by intro zq;(first|((with_reducible apply (RS.indexAt (s:=smallsB)));(iterate 4 exact rfl);(show _ < 200;omega))|fail);exact zq.1):p:=h ⟨hq⟩
theorem Y22 {p q:Prop} (hq:q) (h:Y0q q→p:=by intro zq;(first|((with_reducible apply (RS.quoN (b:=10000)));(iterate 4 exact rfl);omega;(first|exact wrap32 (by omega)|exact wrap64 (by omega)))|fail);exact zq.1):p:=h ⟨hq⟩
theorem Y23 {p q:Prop} (hq:q) (h:Y0q q→p:=by intro zq;(first|((with_reducible first|apply RS.move|apply RS.lenSl|apply RS.fieldAddr);(iterate 3 exact rfl))|fail);exact zq.1):p:=h ⟨hq⟩
theorem Y24 {p q:Prop} (hq:q) (h:Y0q q→p:=by intro zq;(first|((with_reducible apply RS.loadNB);(iterate 3 exact rfl);exact hX;exact hXn;omega;exact takeV_sub (j:=2) (n:=2) hXv (by omega))|fail);exact zq.1):p:=h ⟨hq⟩
theorem Y25 {p q:Prop} (hq:q) (h:Y0q q→p:=by intro zq;(first|((with_reducible apply RS.move);(iterate 3 exact rfl))|fail);exact zq.1):p:=h ⟨hq⟩
theorem Y26 {p q:Prop} (hq:q) (h:Y0q q→p:=by intro zq;(first|((with_reducible apply RS.loadNB);(iterate 3 exact rfl);exact hr;exact hrn;exact hle;exact rowK_at hv)|fail);exact zq.1):p:=h ⟨hq⟩
theorem Y27 {p q:Prop} (hq:q) (h:Y0q q→p:=by intro zq;(first|((with_reducible first|apply W.seq|apply W.exit|apply W.ret|apply thenK_n|apply thenK_e|apply roundP_e))|fail);exact zq.1):p:=h ⟨hq⟩
theorem Y28 {p q:Prop} (hq:q) (h:Y0q q→p:=by intro zq;(first|((with_reducible first|apply RS.nilCheck|apply RS.move|apply RS.assign|apply RS.lenSl|apply RS.not|apply RS.fieldAddr|apply RS.box);(iterate 3 exact rfl))|fail);exact zq.1):p:=h ⟨hq⟩
theorem Y29 {p q:Prop} (hq:q) (h:Y0q q→p:=by intro zq;(first|((with_reducible apply RS.load1B);(iterate 3 exact rfl);exact hF;exact hFn;exact rfl)|fail);exact zq.1):p:=h ⟨hq⟩
theorem Y2a {p q:Prop} (hq:q) (h:Y0q q→p:=by intro zq;(first|((with_reducible first|apply RS.nilCheck|apply RS.move|apply RS.lenSl|apply RS.fieldAddr);(iterate 3 exact rfl))|fail);exact zq.1):p:=h ⟨hq⟩
theorem Y2b {p q:Prop} (hq:q) (h:Y0q q→p:=by intro zq;(first|((with_reducible first|apply RS.move|apply RS.assign|apply RS.fieldAddr|apply RS.box);(iterate 3 exact rfl))|fail);exact zq.1):p:=h ⟨hq⟩
theorem Y2c {p q:Prop} (hq:q) (h:Y0q q→p:=by intro zq;(first|((with_reducible apply RS.sliceFrom);(iterate 4 exact rfl);exact (Int.toNat_of_nonneg (by omega)).symm;omega;exact Nat.le_refl _;omega;(show _ < 18446744073709551616;omega))|fail);exact zq.1):p:=h ⟨hq⟩
theorem Y2d {p q:Prop} (hq:q) (h:Y0q q→p:=by intro zq;(first|((with_reducible apply (RS.appendRow (w:=leakW) (l0:=s.leaks) (q:=⟨2,at_,0⟩)));(iterate 11 exact rfl);exact Nat.le_of_ble_eq_true rfl;exact fun _=>rfl;exact rfl;omega;omega)|fail);exact zq.1):p:=h ⟨hq⟩
theorem Y2e {p q:Prop} (hq:q) (h:Y0q q→p:=by intro zq;(first|((with_reducible apply (RS.appendRow (w:=leakW) (l0:=s.leaks) (q:=⟨3,at_,0⟩)));(iterate 11 exact rfl);exact Nat.le_of_ble_eq_true rfl;exact fun _=>rfl;exact rfl;omega;omega)|fail);exact zq.1):p:=h ⟨hq⟩
theorem Y2f {p q:Prop} (hq:q) (h:Y0q q→p:=by intro zq;(first|((with_reducible apply RS.loadNB);(iterate 3 exact rfl);exact hT;exact hTn;exact Nat.le_of_ble_eq_true rfl;exact (show takeV (0+1) 8 (blockC b X1 y1)=termC b.term from rfl))|fail);exact zq.1):p:=h ⟨hq⟩
theorem Y2g {p q:Prop} (hq:q) (h:Y0q q→p:=by intro zq;(first|((with_reducible apply (RS.sliceSL (b:=π2 1) (L:=a.toNat) (H:=a.toNat+m) (off':=a.toNat)));(iterate 3 exact rfl);exact ⟨_,_,rfl,ha⟩;exact ⟨_,_,rfl,(show a+x.n=_ by omega)⟩;omega;omega;(show _ < 18446744073709551616;omega);(rw [if_neg (by omega)];omega))|fail);exact zq.1):p:=h ⟨hq⟩
theorem Y2h {p q:Prop} (hq:q) (h:Y0q q→p:=by intro zq;(first|((with_reducible first|apply W.seq|apply W.block|apply W.ret|apply W.skip|apply thenK_n|apply thenK_r))|fail);exact zq.1):p:=h ⟨hq⟩
theorem Y2i {p q:Prop} (hq:q) (h:Y0q q→p:=by intro zq;(first|((with_reducible apply RS.convTo32);(iterate 3 exact rfl))|fail);exact zq.1):p:=h ⟨hq⟩
theorem Y2j {p q:Prop} (hq:q) (h:Y0q q→p:=by intro zq;(first|((with_reducible apply RS.storeB);(iterate 3 exact rfl);exact hRa;exact hRan;exact hrw;exact cell_le hLR9 hLRk (o:=11) (by decide);(iterate 2 exact rfl);exact cell_put hLR9 hLRk (o:=11) (y:=insVC (x,na)) (by decide) (by unfold insVC;rw [← hput];rfl))|fail);exact zq.1):p:=h ⟨hq⟩
theorem Y2k {p q:Prop} (hq:q) (h:Y0q q→p:=by intro zq;(first|((with_reducible apply (RS.remN (b:=100)));(iterate 4 exact rfl);omega)|fail);exact zq.1):p:=h ⟨hq⟩
theorem Y2l {p q:Prop} (hq:q) (h:Y0q q→p:=by intro zq;(first|((with_reducible apply (RS.subNat (b:=1)));(iterate 4 exact rfl);omega)|fail);exact zq.1):p:=h ⟨hq⟩
theorem Y2m {p q:Prop} (hq:q) (h:Y0q q→p:=by intro zq;(first|((with_reducible apply (RS.subNat (b:=2)));(iterate 4 exact rfl);omega)|fail);exact zq.1):p:=h ⟨hq⟩
theorem Y2n {p q:Prop} (hq:q) (h:Y0q q→p:=by intro zq;(first|((with_reducible first|apply RS.nilCheck|apply RS.move|apply RS.assign|apply RS.fieldAddr|apply RS.box);(iterate 3 exact rfl))|fail);exact zq.1):p:=h ⟨hq⟩
theorem Y2o {p q:Prop} (hq:q) (h:Y0q q→p:=by intro zq;(first|((with_reducible apply RS.callR true []);(iterate 3 exact rfl);exact fun H hH=>widen_tf _ _ _ H;exact Nm_free (by simp))|fail);exact zq.1):p:=h ⟨hq⟩
theorem Y2p {p q:Prop} (hq:q) (h:Y0q q→p:=by intro zq;(first|((with_reducible apply RS.callR false [0]);(iterate 3 exact rfl);exact fun H hH=>ok_tf (stepS s).fin _ _ H (hH.l 0 rfl (by simp)) rfl;exact Nm_free (by simp))|fail);exact zq.1):p:=h ⟨hq⟩
theorem Y2q {p q:Prop} (hq:q) (h:Y0q q→p:=by intro zq;(first|((with_reducible apply (RS.appendRow (w:=intW) (l0:=accV regs x.args i) (q:=argS regs (x.args.getD i ⟨0,0⟩))));(iterate 11 exact rfl);exact Nat.le_of_ble_eq_true rfl;exact fun _=>rfl;exact rfl;(rw [accV_len];omega);(rw [accV_len];omega))|fail);exact zq.1):p:=h ⟨hq⟩
theorem Y2r {p q:Prop} (hq:q) (h:Y0q q→p:=by intro zq;(first|((with_reducible apply RS.callB);(iterate 3 exact rfl);exact fun H hH=>carg_tf _ _ H N bb mb s (oc.up (base_up hdc hH));exact Nm_free (by simp [argC]))|fail);exact zq.1):p:=h ⟨hq⟩
theorem Y2s {p q:Prop} (hq:q) (h:Y0q q→p:=by intro zq;(first|((with_reducible apply RS.callR true []);(iterate 3 exact rfl);exact fun H hH=>args_tf fb fo fcs fe f.regs x.args A c H (sees_up hH hd _ _ hf.m) (hf.c 3 _ rfl) (hl.mono (sees_up hH hd) fun _ _ h=>h) hn;exact Nm_free (by simp))|fail);exact zq.1):p:=h ⟨hq⟩
theorem Y2t {p q:Prop} (hq:q) (h:Y0q q→p:=by intro zq;(first|((with_reducible apply RS.copy0);(iterate 4 exact rfl);(first|omega|(dsimp only;omega)))|fail);exact zq.1):p:=h ⟨hq⟩
theorem Y2u {p q:Prop} (hq:q) (h:Y0q q→p:=by intro zq;(first|((with_reducible first|apply W.seq|apply W.ret|apply W.skip|apply thenK_n))|fail);exact zq.1):p:=h ⟨hq⟩
theorem Y2v {p q:Prop} (hq:q) (h:Y0q q→p:=by intro zq;(first|((with_reducible first|apply W.seq|apply W.ret|apply W.skip|apply thenK_n|apply thenK_r))|fail);exact zq.1):p:=h ⟨hq⟩
theorem Y2w {p q:Prop} (hq:q) (h:Y0q q→p:=by intro zq;(first|((with_reducible first|apply W.seq|apply W.block|apply W.exit|apply W.ret|apply thenK_n|apply thenK_e|apply thenK_r|apply blockK_r|apply roundN_e))|fail);exact zq.1):p:=h ⟨hq⟩
theorem Y2x {p q:Prop} (hq:q) (h:Y0q q→p:=by intro zq;(first|((with_reducible first|apply W.seq|apply W.block|apply W.ret|apply W.skip|apply thenK_n|apply blockK_n))|fail);exact zq.1):p:=h ⟨hq⟩
theorem Y2y {p q:Prop} (hq:q) (h:Y0q q→p:=by intro zq;(first|((with_reducible apply RS.callR false [5,6]);(iterate 3 exact rfl);exact fun H hH=>arg_tf (x.args.getD i ⟨0,0⟩) regs _ _ _ H hrl (hH.l 5 rfl (by simp)) rfl (hH.l 6 rfl (by simp));exact Nm_free (by simp))|fail);exact zq.1):p:=h ⟨hq⟩
theorem Y2z {p q:Prop} (hq:q) (h:Y0q q→p:=by intro zq;(first|((with_reducible first|apply RS.move|apply RS.assign|apply RS.lenSl|apply RS.not|apply RS.fieldAddr|apply RS.box);(iterate 3 exact rfl))|fail);exact zq.1):p:=h ⟨hq⟩
theorem Y30 {p q:Prop} (hq:q) (h:Y0q q→p:=by intro zq;(first|((with_reducible first|apply W.skip|apply thenK_n))|fail);exact zq.1):p:=h ⟨hq⟩
theorem Y31 {p q:Prop} (hq:q) (h:Y0q q→p:=by intro zq;(first|((with_reducible apply RS.load1BX);(iterate 3 exact rfl);exact hB;exact hBn;exact rfl;exact hbm)|fail);exact zq.1):p:=h ⟨hq⟩
theorem Y32 {p q:Prop} (hq:q) (h:Y0q q→p:=by intro zq;(first|((with_reducible apply RS.callR false [5,6]);(iterate 3 exact rfl);exact fun H hH=>arg_tf b.term.a regs2 _ _ _ H hrl2 (hH.l 5 rfl (by simp)) rfl (hH.l 6 rfl (by simp));exact Nm_free (by simp))|fail);exact zq.1):p:=h ⟨hq⟩
theorem Y33 {p q:Prop} (hq:q) (h:Y0q q→p:=by intro zq;(first|((with_reducible apply RS.bytesStrB);(iterate 3 exact rfl);(first|exact setS_self _ _ _|exact hA2);exact hAn2;exact rfl;(simp only [List.length_set,fmtS_length,List.length_replicate];omega))|fail);exact zq.1):p:=h ⟨hq⟩
theorem Y34 {p q:Prop} (hq:q) (h:Y0q q→p:=by intro zq;(first|((with_reducible apply RS.loadNB);(iterate 3 exact rfl);exact hB;exact hBn;omega;exact takeV_sub (j:=1) (n:=8) hBv (by omega))|fail);exact zq.1):p:=h ⟨hq⟩
theorem Y35 {p q:Prop} (hq:q) (h:Y0q q→p:=by intro zq;(first|((with_reducible apply RS.appendNil);(iterate 8 exact rfl);exact Nat.le_of_ble_eq_true rfl;exact Nat.le_of_ble_eq_true rfl;exact Nat.le_of_ble_eq_true rfl;exact Nat.le_of_ble_eq_true rfl)|fail);exact zq.1):p:=h ⟨hq⟩
theorem Y36 {p q:Prop} (hq:q) (h:Y0q q→p:=by intro zq;(first|((with_reducible apply RS.load1B);(iterate 3 exact rfl);exact hf.m;exact hfn;(first|exact hf.c 3 _ rfl|exact hf.c 4 _ rfl))|fail);exact zq.1):p:=h ⟨hq⟩
theorem Y37 {p q:Prop} (hq:q) (h:Y0q q→p:=by intro zq;(first|((with_reducible apply (RS.remN (b:=10000)));(iterate 4 exact rfl);omega)|fail);exact zq.1):p:=h ⟨hq⟩
theorem Y38 {p q:Prop} (hq:q) (h:Y0q q→p:=by intro zq;(first|((with_reducible apply RS.load1B);(iterate 3 exact rfl);first|exact hX;exact hXn;exact rfl|exact (hR1.old.up a0.dom _ _ hX0);exact (s1.dom _ _ (hR1.old.up a0.dom _ _ hX0));exact rfl)|fail);exact zq.1):p:=h ⟨hq⟩
theorem Y39 {p q:Prop} (hq:q) (h:Y0q q→p:=by intro zq;(first|((with_reducible first|apply W.seq|apply W.block|apply W.exit|apply thenK_n|apply thenK_e|apply blockK_n|apply roundN_e))|fail);exact zq.1):p:=h ⟨hq⟩
theorem Y3a {p q:Prop} (hq:q) (h:Y0q q→p:=by intro zq;(first|((with_reducible apply (RS.subNat (b:=3)));(iterate 4 exact rfl);omega)|fail);exact zq.1):p:=h ⟨hq⟩
theorem Y3b {p q:Prop} (hq:q) (h:Y0q q→p:=by intro zq;(first|((with_reducible apply (RS.subNat (b:=4)));(iterate 4 exact rfl);omega)|fail);exact zq.1):p:=h ⟨hq⟩
theorem Y3c {p q:Prop} (hq:q) (h:Y0q q→p:=by intro zq;(first|((with_reducible apply (RS.sliceArr (l0:=1) (h0:=1+digS n.natAbs)));(iterate 3 exact rfl);exact ⟨_,_,rfl,rfl⟩;exact ⟨_,_,rfl,rfl⟩;omega;omega;omega;exact of_decide_eq_true rfl)|fail);exact zq.1):p:=h ⟨hq⟩
theorem Y3d {p q:Prop} (hq:q) (h:Y0q q→p:=by intro zq;(first|((with_reducible apply RS.loadNB);(iterate 3 exact rfl);exact hY;exact hYn;exact Nat.le_of_ble_eq_true rfl;exact rfl)|fail);exact zq.1):p:=h ⟨hq⟩
theorem Y3e {p q:Prop} (hq:q) (h:Y0q q→p:=by intro zq;(first|((with_reducible apply RS.indexAddrS);(iterate 5 exact rfl);exact hlt)|fail);exact zq.1):p:=h ⟨hq⟩
theorem Y3f {p q:Prop} (hq:q) (h:Y0q q→p:=by intro zq;(first|((with_reducible apply (RS.callA (g0:=39)));(iterate 3 exact rfl);exact fun B' hB'=>itoa_tf (IntKind.i64.wrap (8 * x.size)) (fit_wrap _) B' (hgB.up fun i b hb=>hB'.up i b hb))|fail);exact zq.1):p:=h ⟨hq⟩
theorem Y3g {p q:Prop} (hq:q) (h:Y0q q→p:=by intro zq;(first|((with_reducible apply RS.load1B);(iterate 3 exact rfl);exact hp.m;exact hpn;exact rfl)|fail);exact zq.1):p:=h ⟨hq⟩
theorem Y3h {p q:Prop} (hq:q) (h:Y0q q→p:=by intro zq;(first|((with_reducible first|apply W.seq|apply W.exit|apply W.ret|apply W.skip|apply thenK_n|apply thenK_e|apply roundN_e))|fail);exact zq.1):p:=h ⟨hq⟩
theorem Y3i {p q:Prop} (hq:q) (h:Y0q q→p:=by intro zq;(first|((with_reducible apply RS.load1B);(iterate 3 exact rfl);exact hB;exact hBn;exact rfl)|fail);exact zq.1):p:=h ⟨hq⟩
theorem Y3j {p q:Prop} (hq:q) (h:Y0q q→p:=by intro zq;(first|((with_reducible apply RS.callR true []);(iterate 3 exact rfl);exact fun H hH=>(show TF _ _ _ H (.bool true) H by rw [← htw];exact two_tf x.op H);exact Nm_free (by simp))|fail);exact zq.1):p:=h ⟨hq⟩
theorem Y3k {p q:Prop} (hq:q) (h:Y0q q→p:=by intro zq;(first|((with_reducible apply RS.loadNB);(iterate 3 exact rfl);first|exact hr;exact hrn;exact hle;exact rowK_at hv|exact hx;exact hxn;exact Nat.le_of_ble_eq_true rfl;exact rfl)|fail);exact zq.1):p:=h ⟨hq⟩
theorem Y3l {p q:Prop} (hq:q) (h:Y0q q→p:=by intro zq;(first|((with_reducible apply RS.load1B);(iterate 3 exact rfl);first|exact hf.m;exact hfn;(first|exact hf.c 3 _ rfl|exact hf.c 4 _ rfl)|exact hp.m;exact hpn;exact rfl)|fail);exact zq.1):p:=h ⟨hq⟩
theorem Y3m {p q:Prop} (hq:q) (h:Y0q q→p:=by intro zq;(first|((with_reducible first|apply W.seq|apply W.block|apply W.ret|apply W.skip|apply thenK_n|apply thenK_r|apply blockK_n|apply blockK_r|apply roundK_r|apply joinK_r))|fail);exact zq.1):p:=h ⟨hq⟩
theorem Y3n {p q:Prop} (hq:q) (h:Y0q q→p:=by intro zq;(first|((with_reducible apply RS.callB);(iterate 3 exact rfl);exact fun H hH=>(R_tf _ H);exact Nm_free (by simp))|fail);exact zq.1):p:=h ⟨hq⟩
theorem Y3o {p q:Prop} (hq:q) (h:Y0q q→p:=by intro zq;(first|((with_reducible first|apply W.seq|apply W.block|apply W.exit|apply W.ret|apply W.skip|apply thenK_n|apply thenK_e|apply thenK_r|apply blockK_r|apply roundN_e))|fail);exact zq.1):p:=h ⟨hq⟩
theorem Y3p {p q:Prop} (hq:q) (h:Y0q q→p:=by intro zq;(first|((with_reducible apply RS.callP);(iterate 3 exact rfl);exact fun H=>(two_tf _ H);exact Nm_free (by simp))|fail);exact zq.1):p:=h ⟨hq⟩
theorem Y3q {p q:Prop} (hq:q) (h:Y0q q→p:=by intro zq;(first|((with_reducible first|apply W.seq|apply W.exit|apply thenK_n|apply thenK_e|apply blockK_n|apply roundK_e))|fail);exact zq.1):p:=h ⟨hq⟩
theorem Y3r {p q:Prop} (hq:q) (h:Y0q q→p:=by intro zq;(first|((with_reducible apply RS.callP);(iterate 3 exact rfl);first|exact fun H=>(R_tf _ H);exact Nm_free (by simp)|exact fun H=>(N_tf _ H);exact Nm_free (by simp))|fail);exact zq.1):p:=h ⟨hq⟩
theorem Y3s {p q:Prop} (hq:q) (h:Y0q q→p:=by intro zq;(first|((with_reducible apply (RS.callA (g0:=102)));(iterate 3 exact rfl);exact fun B' hB'=>numDigits_tf n.natAbs (by omega) B' (hgB.up fun i b hb=>hB'.up i b hb))|fail);exact zq.1):p:=h ⟨hq⟩
theorem Y3t {p q:Prop} (hq:q) (h:Y0q q→p:=by intro zq;(first|((with_reducible apply RS.sliceUpto);(iterate 5 exact rfl);omega;(show _ < 18446744073709551616;omega))|fail);exact zq.1):p:=h ⟨hq⟩
theorem Y3u {p q:Prop} (hq:q) (h:Y0q q→p:=by intro zq;(first|((with_reducible first|apply W.block|apply thenK_n))|fail);exact zq.1):p:=h ⟨hq⟩
theorem Y3v {p q:Prop} (hq:q) (h:Y0q q→p:=by intro zq;(first|((with_reducible apply (RS.indexAddrS (n:=0)));(iterate 5 exact rfl);omega)|fail);exact zq.1):p:=h ⟨hq⟩
theorem Y3w {p q:Prop} (hq:q) (h:Y0q q→p:=by intro zq;(first|((with_reducible apply RS.store);(iterate 5 exact rfl);exact hfit;(iterate 2 exact rfl);exact hset)|fail);exact zq.1):p:=h ⟨hq⟩
theorem Y3x {p q:Prop} (hq:q) (h:Y0q q→p:=by intro zq;(first|((with_reducible apply RS.callR false [7]);(iterate 3 exact rfl);exact fun H hH=>ok_tf _ _ _ H (hH.l 7 rfl (by simp)) rfl;exact Nm_free (by simp))|fail);exact zq.1):p:=h ⟨hq⟩
theorem Y3y {p q:Prop} (hq:q) (h:Y0q q→p:=by intro zq;(first|((with_reducible first|apply W.seq|apply thenK_n))|fail);exact zq.1):p:=h ⟨hq⟩
theorem Y3z {p q:Prop} (hq:q) (h:Y0q q→p:=by intro zq;(first|((with_reducible apply RS.appendFullL);(iterate 9 exact rfl);decide;(iterate 2 exact rfl);exact Nat.le_of_ble_eq_true rfl;decide;decide;decide)|fail);exact zq.1):p:=h ⟨hq⟩
theorem Y40 {p q:Prop} (hq:q) (h:Y0q q→p:=by intro zq;(first|((with_reducible apply RS.loadNB);(iterate 3 exact rfl);exact hB;exact hBn;exact hBl;exact hBv)|fail);exact zq.1):p:=h ⟨hq⟩
theorem Y41 {p q:Prop} (hq:q) (h:Y0q q→p:=by intro zq;(first|((with_reducible apply RS.loadNB);(iterate 3 exact rfl);exact hX;exact hXn;exact hXl;exact hXv)|fail);exact zq.1):p:=h ⟨hq⟩
theorem Y42 {p q:Prop} (hq:q) (h:Y0q q→p:=by intro zq;(first|((with_reducible apply RS.fieldAddr);(iterate 3 exact rfl))|fail);exact zq.1):p:=h ⟨hq⟩
theorem Y43 {p q:Prop} (hq:q) (h:Y0q q→p:=by intro zq;(first|((with_reducible apply RS.load1B);(iterate 3 exact rfl);first|exact hp.m;exact hpb;exact rfl|exact hF;exact hFn;exact take_nth (j:=1) hFv rfl)|fail);exact zq.1):p:=h ⟨hq⟩
theorem Y44 {p q:Prop} (hq:q) (h:Y0q q→p:=by intro zq;(first|((with_reducible apply RS.storeB);(iterate 3 exact rfl);exact hRs _;exact hRn;exact hRw;exact Nat.le_of_ble_eq_true rfl;(iterate 3 exact rfl))|fail);exact zq.1):p:=h ⟨hq⟩
theorem Y45 {p q:Prop} (hq:q) (h:Y0q q→p:=by intro zq;(first|((with_reducible apply (RS.callA (g0:=66)));(iterate 3 exact rfl);exact fun B' hB'=>fmt10_tf _ hx.off B' (hgB.up fun i b hb=>hB'.up i b hb))|fail);exact zq.1):p:=h ⟨hq⟩
theorem Y46 {p q:Prop} (hq:q) (h:Y0q q→p:=by intro zq;(first|((with_reducible apply RS.extract);(iterate 4 exact rfl))|fail);exact zq.1):p:=h ⟨hq⟩
theorem Y47 {p q:Prop} (hq:q) (h:Y0q q→p:=by intro zq;(first|((with_reducible first|apply RS.nilCheck|apply RS.move|apply RS.assign|apply RS.not|apply RS.fieldAddr|apply RS.box);(iterate 3 exact rfl))|fail);exact zq.1):p:=h ⟨hq⟩
theorem Y48 {p q:Prop} (hq:q) (h:Y0q q→p:=by intro zq;(first|((with_reducible apply W.condT);kernel_rfl;exact congrArg (fun b=>some (Value.bool b)) hsg)|fail);exact zq.1):p:=h ⟨hq⟩
theorem Y49 {p q:Prop} (hq:q) (h:Y0q q→p:=by intro zq;(first|((with_reducible apply W.condF);kernel_rfl;exact congrArg (fun b=>some (Value.bool b)) hsg)|fail);exact zq.1):p:=h ⟨hq⟩
theorem Y4a {p q:Prop} (hq:q) (h:Y0q q→p:=by intro zq;(first|((with_reducible first|apply W.seq|apply W.exit|apply thenK_n|apply thenK_e|apply roundN_e))|fail);exact zq.1):p:=h ⟨hq⟩
theorem Y4b {p q:Prop} (hq:q) (h:Y0q q→p:=by intro zq;(first|((with_reducible first|apply W.seq|apply W.exit|apply thenK_n|apply thenK_e|apply roundP_e))|fail);exact zq.1):p:=h ⟨hq⟩
theorem Y4c {p q:Prop} (hq:q) (h:Y0q q→p:=by intro zq;(first|((with_reducible first|apply RS.move|apply RS.assign|apply RS.lenSl);(iterate 3 exact rfl))|fail);exact zq.1):p:=h ⟨hq⟩
theorem Y4d {p q:Prop} (hq:q) (h:Y0q q→p:=by intro zq;(first|((with_reducible apply (RS.callNL (b:=⟨⟨bytesC dat⟩,5⟩) true []));(iterate 3 exact rfl);exact fun H hH=>hdata H hH.n (sees_up hH hd))|fail);exact zq.1):p:=h ⟨hq⟩
theorem Y4e {p q:Prop} (hq:q) (h:Y0q q→p:=by intro zq;(first|((with_reducible first|apply W.seq|apply W.block|apply W.exit|apply W.skip|apply thenK_n|apply thenK_e|apply blockK_n|apply roundP_e))|fail);exact zq.1):p:=h ⟨hq⟩
theorem Y4f {p q:Prop} (hq:q) (h:Y0q q→p:=by intro zq;(first|((with_reducible first|apply RS.move|apply RS.assign|apply RS.not);(iterate 3 exact rfl))|fail);exact zq.1):p:=h ⟨hq⟩
theorem Y4g {p q:Prop} (hq:q) (h:Y0q q→p:=by intro zq;(first|((with_reducible apply RS.load1B);(iterate 3 exact rfl);exact hp.m;exact hpb;exact rfl)|fail);exact zq.1):p:=h ⟨hq⟩
theorem Y4h {p q:Prop} (hq:q) (h:Y0q q→p:=by intro zq;(first|((with_reducible apply RS.callP);(iterate 3 exact rfl);exact fun H=>hsm ▸ same_tf v.k.1 x v.A v.c A c H;exact Nm_free (by simp))|fail);exact zq.1):p:=h ⟨hq⟩
theorem Y4i {p q:Prop} (hq:q) (h:Y0q q→p:=by intro zq;(first|((with_reducible apply RS.load1B);(iterate 3 exact rfl);first|exact hOa;exact hOan;exact hO80|exact hRa;exact hRan;exact hRc)|fail);exact zq.1):p:=h ⟨hq⟩
theorem Y4j {p q:Prop} (hq:q) (h:Y0q q→p:=by intro zq;(first|((with_reducible apply RS.store);(iterate 5 exact rfl);exact Nat.le_of_ble_eq_true rfl;exact rfl;exact res_one;exact rfl)|fail);exact zq.1):p:=h ⟨hq⟩
theorem Y4k {p q:Prop} (hq:q) (h:Y0q q→p:=by intro zq;(first|((with_reducible apply RS.loadNB);(iterate 3 exact rfl);exact hXs _;exact hXn;exact Nat.le_of_ble_eq_true rfl;exact rfl)|fail);exact zq.1):p:=h ⟨hq⟩
theorem Y4l {p q:Prop} (hq:q) (h:Y0q q→p:=by intro zq;(first|((with_reducible first|apply RS.assign|apply RS.fieldAddr);(iterate 3 exact rfl))|fail);exact zq.1):p:=h ⟨hq⟩
theorem Y4m {p q:Prop} (hq:q) (h:Y0q q→p:=by intro zq;(first|((with_reducible apply RS.rem);(iterate 4 exact rfl);omega)|fail);exact zq.1):p:=h ⟨hq⟩
theorem Y4n {p q:Prop} (hq:q) (h:Y0q q→p:=by intro zq;(first|((with_reducible apply RS.loadNB);(iterate 3 exact rfl);exact hq;exact hqn;exact Nat.le_of_ble_eq_true rfl;exact rfl)|fail);exact zq.1):p:=h ⟨hq⟩
theorem Y4o {p q:Prop} (hq:q) (h:Y0q q→p:=by intro zq;(first|((with_reducible apply (RS.callA (g0:=112)));(iterate 3 exact rfl);exact fun B' _=>l10_tf _ (bitLen_64 hu) B')|fail);exact zq.1):p:=h ⟨hq⟩
theorem Y4p {p q:Prop} (hq:q) (h:Y0q q→p:=by intro zq;(first|((with_reducible first|apply RS.assign|apply RS.box);(iterate 3 exact rfl))|fail);exact zq.1):p:=h ⟨hq⟩
theorem Y4q {p q:Prop} (hq:q) (h:Y0q q→p:=by intro zq;(first|((with_reducible apply RS.callP);(iterate 3 exact rfl);exact fun H=>(sized_tf _ H);exact Nm_free (by simp))|fail);exact zq.1):p:=h ⟨hq⟩
theorem Y4r {p q:Prop} (hq:q) (h:Y0q q→p:=by intro zq;(first|((with_reducible apply RS.lookup);(iterate 4 exact rfl);exact hM;exact hMn;exact hMr;exact hs0;exact hget)|fail);exact zq.1):p:=h ⟨hq⟩
theorem Y4s {p q:Prop} (hq:q) (h:Y0q q→p:=by intro zq;(first|((with_reducible first|apply W.seq|apply W.exit|apply thenK_n|apply thenK_e|apply blockK_n|apply roundN_e))|fail);exact zq.1):p:=h ⟨hq⟩
theorem Y4t {p q:Prop} (hq:q) (h:Y0q q→p:=by intro zq;(first|((with_reducible apply RS.load1B);(iterate 3 exact rfl);exact hB;exact hBn;exact take_nth (j:=0) hBv rfl)|fail);exact zq.1):p:=h ⟨hq⟩
theorem Y4u {p q:Prop} (hq:q) (h:Y0q q→p:=by intro zq;(first|((with_reducible apply RS.callP);(iterate 3 exact rfl);exact fun H=>reads28_tf x A c h28 H;exact Nm_any)|fail);exact zq.1):p:=h ⟨hq⟩
theorem Y4v {p q:Prop} (hq:q) (h:Y0q q→p:=by intro zq;(first|((with_reducible apply RS.indexAddrS);(iterate 4 exact rfl);exact (Int.toNat_of_nonneg hr.1).symm;omega)|fail);exact zq.1):p:=h ⟨hq⟩
theorem Y4w {p q:Prop} (hq:q) (h:Y0q q→p:=by intro zq;(first|((with_reducible apply RS.load1B);(iterate 3 exact rfl);exact hF;exact hFn;(first|exact hF3|exact hF5))|fail);exact zq.1):p:=h ⟨hq⟩
theorem Y4x {p q:Prop} (hq:q) (h:Y0q q→p:=by intro zq;(first|((with_reducible apply (RS.callA (g0:=113)));(iterate 3 exact rfl);exact fun B' _=>len64_tf u hu B')|fail);exact zq.1):p:=h ⟨hq⟩
theorem Y4y {p q:Prop} (hq:q) (h:Y0q q→p:=by intro zq;(first|((with_reducible first|apply RS.move|apply RS.assign|apply RS.not|apply RS.box);(iterate 3 exact rfl))|fail);exact zq.1):p:=h ⟨hq⟩
theorem Y4z {p q:Prop} (hq:q) (h:Y0q q→p:=by intro zq;(first|((with_reducible apply RS.shl);(iterate 4 exact rfl);omega)|fail);exact zq.1):p:=h ⟨hq⟩
theorem Y50 {p q:Prop} (hq:q) (h:Y0q q→p:=by intro zq;(first|((with_reducible apply RS.shr);(iterate 4 exact rfl);omega)|fail);exact zq.1):p:=h ⟨hq⟩
theorem Y51 {p q:Prop} (hq:q) (h:Y0q q→p:=by intro zq;(first|((with_reducible apply RS.quo);(iterate 4 exact rfl);omega)|fail);exact zq.1):p:=h ⟨hq⟩
theorem mixed:Tryd.prog.follows .mixedOrders=true:=by kernel_rfl
instance:TyU Tryd.prog 2 (.int .i64):=⟨by kernel_rfl,by kernel_rfl⟩
instance:TyOne Tryd.prog 2:=⟨by kernel_rfl⟩
instance:TySz Tryd.prog 2 1:=⟨by kernel_rfl,by kernel_rfl⟩
instance:TyBy Tryd.prog 2 8:=⟨by kernel_rfl⟩
instance:TyZ Tryd.prog 2 (.int .i64 0):=⟨by kernel_rfl,by kernel_rfl,by kernel_rfl⟩
instance:TyU Tryd.prog 3 (.int .i64):=⟨by kernel_rfl,by kernel_rfl⟩
instance:TyOne Tryd.prog 3:=⟨by kernel_rfl⟩
instance:TySz Tryd.prog 3 1:=⟨by kernel_rfl,by kernel_rfl⟩
instance:TyBy Tryd.prog 3 8:=⟨by kernel_rfl⟩
instance:TyZ Tryd.prog 3 (.int .i64 0):=⟨by kernel_rfl,by kernel_rfl,by kernel_rfl⟩
instance:TyU Tryd.prog 4 .bool:=⟨by kernel_rfl,by kernel_rfl⟩
instance:TyOne Tryd.prog 4:=⟨by kernel_rfl⟩
instance:TySz Tryd.prog 4 1:=⟨by kernel_rfl,by kernel_rfl⟩
instance:TyBy Tryd.prog 4 1:=⟨by kernel_rfl⟩
instance:TyZ Tryd.prog 4 (.bool false):=⟨by kernel_rfl,by kernel_rfl,by kernel_rfl⟩
instance:TyU Tryd.prog 5 (.int .u8):=⟨by kernel_rfl,by kernel_rfl⟩
instance:TyOne Tryd.prog 5:=⟨by kernel_rfl⟩
instance:TySz Tryd.prog 5 1:=⟨by kernel_rfl,by kernel_rfl⟩
instance:TyBy Tryd.prog 5 1:=⟨by kernel_rfl⟩
instance:TyZ Tryd.prog 5 (.int .u8 0):=⟨by kernel_rfl,by kernel_rfl,by kernel_rfl⟩
instance:TyU Tryd.prog 9 .string:=⟨by kernel_rfl,by kernel_rfl⟩
instance:TyOne Tryd.prog 9:=⟨by kernel_rfl⟩
instance:TySz Tryd.prog 9 1:=⟨by kernel_rfl,by kernel_rfl⟩
instance:TyBy Tryd.prog 9 16:=⟨by kernel_rfl⟩
instance:TyZ Tryd.prog 9 (.string ⟨#[]⟩):=⟨by kernel_rfl,by kernel_rfl,by kernel_rfl⟩
instance:TyU Tryd.prog 22 (.slice 37):=⟨by kernel_rfl,by kernel_rfl⟩
instance:TyOne Tryd.prog 22:=⟨by kernel_rfl⟩
instance:TySz Tryd.prog 22 1:=⟨by kernel_rfl,by kernel_rfl⟩
instance:TyU Tryd.prog 23 (.slice 111):=⟨by kernel_rfl,by kernel_rfl⟩
instance:TyOne Tryd.prog 23:=⟨by kernel_rfl⟩
instance:TyAgg Tryd.prog 25 4:=⟨⟨by kernel_rfl,by kernel_rfl⟩⟩
instance:TySz Tryd.prog 25 4:=⟨by kernel_rfl,by kernel_rfl⟩
instance:TyZ Tryd.prog 25 (.agg ⟨[(.slice none 0 0),(.slice none 0 0),(.int .i64 0),(.int .i64 0)]⟩):=⟨by kernel_rfl,by kernel_rfl,by kernel_rfl⟩
instance:TyS Tryd.prog 25 [(.slice none 0 0),(.slice none 0 0),(.int .i64 0),(.int .i64 0)] [(0,1),(1,1),(2,1),(3,1)]:=⟨by kernel_rfl,by kernel_rfl,by kernel_rfl⟩
instance:FOff Tryd.prog 25 0 0:=⟨by kernel_rfl⟩
instance:FOff Tryd.prog 25 1 1:=⟨by kernel_rfl⟩
instance:FOff Tryd.prog 25 2 2:=⟨by kernel_rfl⟩
instance:FOff Tryd.prog 25 3 3:=⟨by kernel_rfl⟩
instance:TyU Tryd.prog 28 (.slice 5):=⟨by kernel_rfl,by kernel_rfl⟩
instance:TyOne Tryd.prog 28:=⟨by kernel_rfl⟩
instance:TySz Tryd.prog 28 1:=⟨by kernel_rfl,by kernel_rfl⟩
instance:TyAgg Tryd.prog 30 2:=⟨⟨by kernel_rfl,by kernel_rfl⟩⟩
instance:TySz Tryd.prog 30 2:=⟨by kernel_rfl,by kernel_rfl⟩
instance:TyS Tryd.prog 30 [(.slice none 0 0),(.slice none 0 0)] [(0,1),(1,1)]:=⟨by kernel_rfl,by kernel_rfl,by kernel_rfl⟩
instance:FOff Tryd.prog 30 0 0:=⟨by kernel_rfl⟩
instance:FOff Tryd.prog 30 1 1:=⟨by kernel_rfl⟩
instance:TyU Tryd.prog 31 (.pointer 25):=⟨by kernel_rfl,by kernel_rfl⟩
instance:TyOne Tryd.prog 31:=⟨by kernel_rfl⟩
instance:TyU Tryd.prog 33 (.slice 4):=⟨by kernel_rfl,by kernel_rfl⟩
instance:TyOne Tryd.prog 33:=⟨by kernel_rfl⟩
instance:TySz Tryd.prog 33 1:=⟨by kernel_rfl,by kernel_rfl⟩
instance:TyU Tryd.prog 34 (.slice 3):=⟨by kernel_rfl,by kernel_rfl⟩
instance:TyOne Tryd.prog 34:=⟨by kernel_rfl⟩
instance:TySz Tryd.prog 34 1:=⟨by kernel_rfl,by kernel_rfl⟩
instance:TyU Tryd.prog 35 (.slice 50):=⟨by kernel_rfl,by kernel_rfl⟩
instance:TyOne Tryd.prog 35:=⟨by kernel_rfl⟩
instance:TySz Tryd.prog 35 1:=⟨by kernel_rfl,by kernel_rfl⟩
instance:TyAgg Tryd.prog 37 6:=⟨⟨by kernel_rfl,by kernel_rfl⟩⟩
instance:TySz Tryd.prog 37 6:=⟨by kernel_rfl,by kernel_rfl⟩
instance:TyBy Tryd.prog 37 104:=⟨by kernel_rfl⟩
instance:TyZ Tryd.prog 37 (.agg ⟨[(.string ⟨#[]⟩),(.int .i64 0),(.slice none 0 0),(.int .i64 0),(.slice none 0 0),(.slice none 0 0)]⟩):=⟨by kernel_rfl,by kernel_rfl,by kernel_rfl⟩
instance:TyS Tryd.prog 37 [(.string ⟨#[]⟩),(.int .i64 0),(.slice none 0 0),(.int .i64 0),(.slice none 0 0),(.slice none 0 0)] [(0,1),(1,1),(2,1),(3,1),(4,1),(5,1)]:=⟨by kernel_rfl,by kernel_rfl,by kernel_rfl⟩
instance:FOff Tryd.prog 37 0 0:=⟨by kernel_rfl⟩
instance:FOff Tryd.prog 37 1 1:=⟨by kernel_rfl⟩
instance:FOff Tryd.prog 37 2 2:=⟨by kernel_rfl⟩
instance:FOff Tryd.prog 37 3 3:=⟨by kernel_rfl⟩
instance:FOff Tryd.prog 37 4 4:=⟨by kernel_rfl⟩
instance:FOff Tryd.prog 37 5 5:=⟨by kernel_rfl⟩
instance:TyOne Tryd.prog 43:=⟨by kernel_rfl⟩
instance:TyU Tryd.prog 44 (.slice 58):=⟨by kernel_rfl,by kernel_rfl⟩
instance:TyOne Tryd.prog 44:=⟨by kernel_rfl⟩
instance:TySz Tryd.prog 44 1:=⟨by kernel_rfl,by kernel_rfl⟩
instance:TyAgg Tryd.prog 46 2:=⟨⟨by kernel_rfl,by kernel_rfl⟩⟩
instance:TySz Tryd.prog 46 2:=⟨by kernel_rfl,by kernel_rfl⟩
instance:TyBy Tryd.prog 46 16:=⟨by kernel_rfl⟩
instance:TyZ Tryd.prog 46 (.agg ⟨[(.int .i64 0),(.int .i64 0)]⟩):=⟨by kernel_rfl,by kernel_rfl,by kernel_rfl⟩
instance:TyS Tryd.prog 46 [(.int .i64 0),(.int .i64 0)] [(0,1),(1,1)]:=⟨by kernel_rfl,by kernel_rfl,by kernel_rfl⟩
instance:FOff Tryd.prog 46 0 0:=⟨by kernel_rfl⟩
instance:FOff Tryd.prog 46 1 1:=⟨by kernel_rfl⟩
instance:TyAgg Tryd.prog 48 8:=⟨⟨by kernel_rfl,by kernel_rfl⟩⟩
instance:TySz Tryd.prog 48 8:=⟨by kernel_rfl,by kernel_rfl⟩
instance:TyZ Tryd.prog 48 (.agg ⟨[(.int .i64 0),(.int .i64 0),(.int .i64 0),(.int .i64 0),(.int .i64 0),(.int .i64 0),(.int .i64 0),(.int .i64 0)]⟩):=⟨by kernel_rfl,by kernel_rfl,by kernel_rfl⟩
instance:TyS Tryd.prog 48 [(.int .i64 0),(.int .i64 0),(.int .i64 0),(.int .i64 0),(.int .i64 0),(.int .i64 0),(.int .i64 0),(.int .i64 0)] [(0,1),(1,1),(2,2),(4,2),(6,1),(7,1)]:=⟨by kernel_rfl,by kernel_rfl,by kernel_rfl⟩
instance:FOff Tryd.prog 48 0 0:=⟨by kernel_rfl⟩
instance:FOff Tryd.prog 48 1 1:=⟨by kernel_rfl⟩
instance:FOff Tryd.prog 48 2 2:=⟨by kernel_rfl⟩
instance:FOff Tryd.prog 48 3 4:=⟨by kernel_rfl⟩
instance:FOff Tryd.prog 48 4 6:=⟨by kernel_rfl⟩
instance:FOff Tryd.prog 48 5 7:=⟨by kernel_rfl⟩
instance:TyAgg Tryd.prog 50 9:=⟨⟨by kernel_rfl,by kernel_rfl⟩⟩
instance:TySz Tryd.prog 50 9:=⟨by kernel_rfl,by kernel_rfl⟩
instance:TyBy Tryd.prog 50 88:=⟨by kernel_rfl⟩
instance:TyZ Tryd.prog 50 (.agg ⟨[(.slice none 0 0),(.int .i64 0),(.int .i64 0),(.int .i64 0),(.int .i64 0),(.int .i64 0),(.int .i64 0),(.int .i64 0),(.int .i64 0)]⟩):=⟨by kernel_rfl,by kernel_rfl,by kernel_rfl⟩
instance:TyS Tryd.prog 50 [(.slice none 0 0),(.int .i64 0),(.int .i64 0),(.int .i64 0),(.int .i64 0),(.int .i64 0),(.int .i64 0),(.int .i64 0),(.int .i64 0)] [(0,1),(1,8)]:=⟨by kernel_rfl,by kernel_rfl,by kernel_rfl⟩
instance:FOff Tryd.prog 50 0 0:=⟨by kernel_rfl⟩
instance:FOff Tryd.prog 50 1 1:=⟨by kernel_rfl⟩
instance:TyU Tryd.prog 54 (.slice 46):=⟨by kernel_rfl,by kernel_rfl⟩
instance:TyOne Tryd.prog 54:=⟨by kernel_rfl⟩
instance:TySz Tryd.prog 54 1:=⟨by kernel_rfl,by kernel_rfl⟩
instance:TyAgg Tryd.prog 58 12:=⟨⟨by kernel_rfl,by kernel_rfl⟩⟩
instance:TySz Tryd.prog 58 12:=⟨by kernel_rfl,by kernel_rfl⟩
instance:TyBy Tryd.prog 58 104:=⟨by kernel_rfl⟩
instance:TyZ Tryd.prog 58 (.agg ⟨[(.int .i64 0),(.int .i64 0),(.int .i64 0),(.int .i64 0),(.int .i64 0),(.int .i64 0),(.int .i64 0),(.bool false),(.bool false),(.int .i64 0),(.int .i64 0),(.slice none 0 0)]⟩):=⟨by kernel_rfl,by kernel_rfl,by kernel_rfl⟩
instance:TyS Tryd.prog 58 [(.int .i64 0),(.int .i64 0),(.int .i64 0),(.int .i64 0),(.int .i64 0),(.int .i64 0),(.int .i64 0),(.bool false),(.bool false),(.int .i64 0),(.int .i64 0),(.slice none 0 0)] [(0,1),(1,1),(2,2),(4,2),(6,1),(7,1),(8,1),(9,1),(10,1),(11,1)]:=⟨by kernel_rfl,by kernel_rfl,by kernel_rfl⟩
instance:FOff Tryd.prog 58 0 0:=⟨by kernel_rfl⟩
instance:FOff Tryd.prog 58 1 1:=⟨by kernel_rfl⟩
instance:FOff Tryd.prog 58 2 2:=⟨by kernel_rfl⟩
instance:FOff Tryd.prog 58 3 4:=⟨by kernel_rfl⟩
instance:FOff Tryd.prog 58 4 6:=⟨by kernel_rfl⟩
instance:FOff Tryd.prog 58 5 7:=⟨by kernel_rfl⟩
instance:FOff Tryd.prog 58 6 8:=⟨by kernel_rfl⟩
instance:FOff Tryd.prog 58 7 9:=⟨by kernel_rfl⟩
instance:FOff Tryd.prog 58 8 10:=⟨by kernel_rfl⟩
instance:FOff Tryd.prog 58 9 11:=⟨by kernel_rfl⟩
instance:TyU Tryd.prog 64 (.array 2 2):=⟨by kernel_rfl,by kernel_rfl⟩
instance:TySz Tryd.prog 64 2:=⟨by kernel_rfl,by kernel_rfl⟩
instance:TyOne Tryd.prog 67:=⟨by kernel_rfl⟩
instance:TySz Tryd.prog 67 1:=⟨by kernel_rfl,by kernel_rfl⟩
instance:TyU Tryd.prog 68 (.slice 2):=⟨by kernel_rfl,by kernel_rfl⟩
instance:TyOne Tryd.prog 68:=⟨by kernel_rfl⟩
instance:TySz Tryd.prog 68 1:=⟨by kernel_rfl,by kernel_rfl⟩
instance:TyU Tryd.prog 69 (.slice 74):=⟨by kernel_rfl,by kernel_rfl⟩
instance:TyOne Tryd.prog 69:=⟨by kernel_rfl⟩
instance:TySz Tryd.prog 69 1:=⟨by kernel_rfl,by kernel_rfl⟩
instance:TyAgg Tryd.prog 71 5:=⟨⟨by kernel_rfl,by kernel_rfl⟩⟩
instance:TySz Tryd.prog 71 5:=⟨by kernel_rfl,by kernel_rfl⟩
instance:TyZ Tryd.prog 71 (.agg ⟨[(.int .i64 0),(.int .i64 0),(.slice none 0 0),(.slice none 0 0),(.int .i64 0)]⟩):=⟨by kernel_rfl,by kernel_rfl,by kernel_rfl⟩
instance:FOff Tryd.prog 71 0 0:=⟨by kernel_rfl⟩
instance:FOff Tryd.prog 71 1 1:=⟨by kernel_rfl⟩
instance:FOff Tryd.prog 71 2 2:=⟨by kernel_rfl⟩
instance:FOff Tryd.prog 71 3 3:=⟨by kernel_rfl⟩
instance:FOff Tryd.prog 71 4 4:=⟨by kernel_rfl⟩
instance:TyAgg Tryd.prog 74 3:=⟨⟨by kernel_rfl,by kernel_rfl⟩⟩
instance:TySz Tryd.prog 74 3:=⟨by kernel_rfl,by kernel_rfl⟩
instance:TyBy Tryd.prog 74 24:=⟨by kernel_rfl⟩
instance:TyZ Tryd.prog 74 (.agg ⟨[(.int .i64 0),(.int .i64 0),(.int .i64 0)]⟩):=⟨by kernel_rfl,by kernel_rfl,by kernel_rfl⟩
instance:TyS Tryd.prog 74 [(.int .i64 0),(.int .i64 0),(.int .i64 0)] [(0,1),(1,1),(2,1)]:=⟨by kernel_rfl,by kernel_rfl,by kernel_rfl⟩
instance:FOff Tryd.prog 74 0 0:=⟨by kernel_rfl⟩
instance:FOff Tryd.prog 74 1 1:=⟨by kernel_rfl⟩
instance:TyU Tryd.prog 80 (.slice 9):=⟨by kernel_rfl,by kernel_rfl⟩
instance:TyU Tryd.prog 82 (.array 31 9):=⟨by kernel_rfl,by kernel_rfl⟩
instance:TyU Tryd.prog 90 (.int .u64):=⟨by kernel_rfl,by kernel_rfl⟩
instance:TyOne Tryd.prog 90:=⟨by kernel_rfl⟩
instance:TySz Tryd.prog 90 1:=⟨by kernel_rfl,by kernel_rfl⟩
instance:TyU Tryd.prog 95 (.map 3 46):=⟨by kernel_rfl,by kernel_rfl⟩
instance:TyOne Tryd.prog 95:=⟨by kernel_rfl⟩
instance:TyU Tryd.prog 96 (.slice 130):=⟨by kernel_rfl,by kernel_rfl⟩
instance:TyOne Tryd.prog 96:=⟨by kernel_rfl⟩
instance:TySz Tryd.prog 96 1:=⟨by kernel_rfl,by kernel_rfl⟩
instance:TySz Tryd.prog 98 2:=⟨by kernel_rfl,by kernel_rfl⟩
instance:TyS Tryd.prog 98 [(.map none),(.slice none 0 0)] [(0,1),(1,1)]:=⟨by kernel_rfl,by kernel_rfl,by kernel_rfl⟩
instance:FOff Tryd.prog 98 0 0:=⟨by kernel_rfl⟩
instance:FOff Tryd.prog 98 1 1:=⟨by kernel_rfl⟩
instance:TySz Tryd.prog 105 11:=⟨by kernel_rfl,by kernel_rfl⟩
instance:TyS Tryd.prog 105 [(.pointer none),(.int .i64 0),(.int .i64 0),(.slice none 0 0),(.slice none 0 0),(.int .i64 0),(.int .i64 0),(.slice none 0 0),(.slice none 0 0),(.int .i64 0),(.int .i64 0)] [(0,1),(1,5),(6,1),(7,1),(8,1),(9,1),(10,1)]:=⟨by kernel_rfl,by kernel_rfl,by kernel_rfl⟩
instance:FOff Tryd.prog 105 0 0:=⟨by kernel_rfl⟩
instance:FOff Tryd.prog 105 1 1:=⟨by kernel_rfl⟩
instance:FOff Tryd.prog 105 2 6:=⟨by kernel_rfl⟩
instance:FOff Tryd.prog 105 3 7:=⟨by kernel_rfl⟩
instance:FOff Tryd.prog 105 4 8:=⟨by kernel_rfl⟩
instance:FOff Tryd.prog 105 5 9:=⟨by kernel_rfl⟩
instance:FOff Tryd.prog 105 6 10:=⟨by kernel_rfl⟩
instance:TyU Tryd.prog 109 (.slice 113):=⟨by kernel_rfl,by kernel_rfl⟩
instance:TyOne Tryd.prog 109:=⟨by kernel_rfl⟩
instance:TyAgg Tryd.prog 111 4:=⟨⟨by kernel_rfl,by kernel_rfl⟩⟩
instance:TySz Tryd.prog 111 4:=⟨by kernel_rfl,by kernel_rfl⟩
instance:TyZ Tryd.prog 111 (.agg ⟨[(.string ⟨#[]⟩),(.int .i64 0),(.int .i64 0),(.slice none 0 0)]⟩):=⟨by kernel_rfl,by kernel_rfl,by kernel_rfl⟩
instance:FOff Tryd.prog 111 1 1:=⟨by kernel_rfl⟩
instance:FOff Tryd.prog 111 2 2:=⟨by kernel_rfl⟩
instance:FOff Tryd.prog 111 3 3:=⟨by kernel_rfl⟩
instance:TyAgg Tryd.prog 113 3:=⟨⟨by kernel_rfl,by kernel_rfl⟩⟩
instance:TySz Tryd.prog 113 3:=⟨by kernel_rfl,by kernel_rfl⟩
instance:TyZ Tryd.prog 113 (.agg ⟨[(.int .i64 0),(.slice none 0 0),(.int .i64 0)]⟩):=⟨by kernel_rfl,by kernel_rfl,by kernel_rfl⟩
instance:FOff Tryd.prog 113 0 0:=⟨by kernel_rfl⟩
instance:FOff Tryd.prog 113 1 1:=⟨by kernel_rfl⟩
instance:FOff Tryd.prog 113 2 2:=⟨by kernel_rfl⟩
instance:TyAgg Tryd.prog 130 13:=⟨⟨by kernel_rfl,by kernel_rfl⟩⟩
instance:TySz Tryd.prog 130 13:=⟨by kernel_rfl,by kernel_rfl⟩
instance:TyBy Tryd.prog 130 112:=⟨by kernel_rfl⟩
instance:TyZ Tryd.prog 130 (.agg ⟨[(.int .i64 0),(.int .i64 0),(.int .i64 0),(.int .i64 0),(.int .i64 0),(.int .i64 0),(.int .i64 0),(.bool false),(.bool false),(.int .i64 0),(.int .i64 0),(.slice none 0 0),(.int .i64 0)]⟩):=⟨by kernel_rfl,by kernel_rfl,by kernel_rfl⟩
instance:TyS Tryd.prog 130 [(.int .i64 0),(.int .i64 0),(.int .i64 0),(.int .i64 0),(.int .i64 0),(.int .i64 0),(.int .i64 0),(.bool false),(.bool false),(.int .i64 0),(.int .i64 0),(.slice none 0 0),(.int .i64 0)] [(0,12),(12,1)]:=⟨by kernel_rfl,by kernel_rfl,by kernel_rfl⟩
instance:FOff Tryd.prog 130 0 0:=⟨by kernel_rfl⟩
instance:FOff Tryd.prog 130 1 12:=⟨by kernel_rfl⟩
instance:TySz Tryd.prog 135 3:=⟨by kernel_rfl,by kernel_rfl⟩
instance:TyS Tryd.prog 135 [(.pointer none),(.slice none 0 0),(.slice none 0 0)] [(0,1),(1,1),(2,1)]:=⟨by kernel_rfl,by kernel_rfl,by kernel_rfl⟩
instance:FOff Tryd.prog 135 0 0:=⟨by kernel_rfl⟩
instance:FOff Tryd.prog 135 1 1:=⟨by kernel_rfl⟩
instance:FOff Tryd.prog 135 2 2:=⟨by kernel_rfl⟩
instance:TyU Tryd.prog 164 (.array 24 5):=⟨by kernel_rfl,by kernel_rfl⟩
instance:TyZ Tryd.prog 164 (.agg ⟨[(.int .u8 0),(.int .u8 0),(.int .u8 0),(.int .u8 0),(.int .u8 0),(.int .u8 0),(.int .u8 0),(.int .u8 0),(.int .u8 0),(.int .u8 0),(.int .u8 0),(.int .u8 0),(.int .u8 0),(.int .u8 0),(.int .u8 0),(.int .u8 0),(.int .u8 0),(.int .u8 0),(.int .u8 0),(.int .u8 0),(.int .u8 0),(.int .u8 0),(.int .u8 0),(.int .u8 0)]⟩):=⟨by kernel_rfl,by kernel_rfl,by kernel_rfl⟩
instance:TyU Tryd.prog 177 (.array 20 90):=⟨by kernel_rfl,by kernel_rfl⟩
instance:TyU Tryd.prog 178 (.int .u32):=⟨by kernel_rfl,by kernel_rfl⟩
instance:GF Tryd.prog 12:=⟨by kernel_rfl⟩
instance:GF Tryd.prog 13:=⟨by kernel_rfl⟩
instance:GF Tryd.prog 17:=⟨by kernel_rfl⟩
instance:GF Tryd.prog 19:=⟨by kernel_rfl⟩
instance:GF Tryd.prog 23:=⟨by kernel_rfl⟩
instance:GF Tryd.prog 26:=⟨by kernel_rfl⟩
instance:GF Tryd.prog 27:=⟨by kernel_rfl⟩
instance:GF Tryd.prog 28:=⟨by kernel_rfl⟩
instance:GF Tryd.prog 29:=⟨by kernel_rfl⟩
instance:GF Tryd.prog 30:=⟨by kernel_rfl⟩
instance:GF Tryd.prog 31:=⟨by kernel_rfl⟩
instance:GF Tryd.prog 32:=⟨by kernel_rfl⟩
instance:GF Tryd.prog 37:=⟨by kernel_rfl⟩
instance:GF Tryd.prog 39:=⟨by kernel_rfl⟩
instance:GF Tryd.prog 40:=⟨by kernel_rfl⟩
instance:GF Tryd.prog 41:=⟨by kernel_rfl⟩
instance:GF Tryd.prog 42:=⟨by kernel_rfl⟩
instance:GF Tryd.prog 46:=⟨by kernel_rfl⟩
instance:GF Tryd.prog 50:=⟨by kernel_rfl⟩
instance:GF Tryd.prog 54:=⟨by kernel_rfl⟩
instance:GF Tryd.prog 55:=⟨by kernel_rfl⟩
instance:GF Tryd.prog 56:=⟨by kernel_rfl⟩
instance:GF Tryd.prog 57:=⟨by kernel_rfl⟩
instance:GF Tryd.prog 58:=⟨by kernel_rfl⟩
instance:GF Tryd.prog 62:=⟨by kernel_rfl⟩
instance:GF Tryd.prog 63:=⟨by kernel_rfl⟩
instance:GF Tryd.prog 64:=⟨by kernel_rfl⟩
instance:GF Tryd.prog 65:=⟨by kernel_rfl⟩
instance:GF Tryd.prog 66:=⟨by kernel_rfl⟩
instance:GF Tryd.prog 73:=⟨by kernel_rfl⟩
instance:GF Tryd.prog 74:=⟨by kernel_rfl⟩
instance:GF Tryd.prog 75:=⟨by kernel_rfl⟩
instance:GF Tryd.prog 76:=⟨by kernel_rfl⟩
instance:GF Tryd.prog 77:=⟨by kernel_rfl⟩
instance:GF Tryd.prog 78:=⟨by kernel_rfl⟩
instance:GF Tryd.prog 85:=⟨by kernel_rfl⟩
instance:GF Tryd.prog 86:=⟨by kernel_rfl⟩
instance:GF Tryd.prog 87:=⟨by kernel_rfl⟩
instance:GF Tryd.prog 91:=⟨by kernel_rfl⟩
instance:GF Tryd.prog 92:=⟨by kernel_rfl⟩
instance:GF Tryd.prog 93:=⟨by kernel_rfl⟩
instance:GF Tryd.prog 94:=⟨by kernel_rfl⟩
instance:GF Tryd.prog 95:=⟨by kernel_rfl⟩
instance:GF Tryd.prog 99:=⟨by kernel_rfl⟩
instance:GF Tryd.prog 100:=⟨by kernel_rfl⟩
instance:GF Tryd.prog 101:=⟨by kernel_rfl⟩
instance:GF Tryd.prog 102:=⟨by kernel_rfl⟩
instance:GF Tryd.prog 103:=⟨by kernel_rfl⟩
instance:GF Tryd.prog 107:=⟨by kernel_rfl⟩
instance:GF Tryd.prog 108:=⟨by kernel_rfl⟩
instance:GF Tryd.prog 109:=⟨by kernel_rfl⟩
instance:GF Tryd.prog 111:=⟨by kernel_rfl⟩
instance:GF Tryd.prog 112:=⟨by kernel_rfl⟩
instance:GF Tryd.prog 113:=⟨by kernel_rfl⟩
instance:GF Tryd.prog 114:=⟨by kernel_rfl⟩
instance:GF Tryd.prog 117:=⟨by kernel_rfl⟩
attribute [local irreducible] W RS
def twoS (op:Int):Bool:=decide (3≤op) && decide (op≤21)
theorem two_tf (op:Int) (h:Hp):TF Tryd.prog 19 ⟨[.int .i64 op]⟩ h (.bool (twoS op)) h:=by
 refine TF.still (fn:=Tryd.f19) (c:=(Tryd.f19.body.getD .skip)) Tryd.func19 (by kernel_rfl) Tryd.ntmps19 (by kernel_rfl) (by simp) ?_
 conv=>arg 2;whnf
 repeat' (first|refine Yh ?_|refine Yk ?_|refine Yb ?_|refine Ym ?_|refine Yn ?_|refine Y0 ?_|refine Y1j ?_|refine Y1 ?_|((refine YD ?_ ?_)<;>intro _)|((refine YG ?_ ?_)<;>intro _)|((refine YC ?_ ?_)<;>intro _)|((refine YN ?_ ?_)<;>intro _))
 all_goals refine endsK_ret _ (.cons (.tmp rfl) .nil) ⟨rfl,?_⟩
 all_goals simp only [resultOf,Value.bool.injEq,twoS]
 all_goals (rw [Bool.eq_iff_iff];simp at *;try omega)
def trapsS (op:Int):Bool:=decide (6≤op) && decide (op≤9)
def pureS (op:Int):Bool:=decide (1≤op) && decide (op≤25)
def sizedS (n:Int):Bool:=n == 1 || n == 2 || n == 4 || n == 8
theorem sized_tf (n:Int) (h:Hp):TF Tryd.prog 86 ⟨[.int .i64 n]⟩ h (.bool (sizedS n)) h:=by
 refine TF.still (fn:=Tryd.f86) (c:=(Tryd.f86.body.getD .skip)) Tryd.func86 (by kernel_rfl) Tryd.ntmps86 (by kernel_rfl) (by simp) ?_
 conv=>arg 2;whnf
 repeat' (first|refine Yh ?_|refine Yk ?_|refine Yb ?_|refine Ym ?_|refine Yn ?_|refine Y0 ?_|refine Y1j ?_|refine Y1 ?_|((refine YD ?_ ?_)<;>intro _)|((refine YG ?_ ?_)<;>intro _)|((refine YC ?_ ?_)<;>intro _)|((refine YN ?_ ?_)<;>intro _))
 all_goals refine endsK_ret _ (.cons (.tmp rfl) .nil) ⟨rfl,?_⟩
 all_goals simp only [resultOf,Value.bool.injEq,sizedS]
 all_goals (rw [Bool.eq_iff_iff];simp at *;try omega)
def u64 (a:Int):Int:=IntKind.u64.wrap a
def holdsS (op a b:Int):Bool:=if op=16 then a == b else if op=17 then !(a == b) else if op=18 then decide (a < b) else if op=19 then decide (a≤b) else if op=20 then decide (u64 a < u64 b) else if op=21 then decide (u64 a≤u64 b) else false
theorem holds_tf (op a b:Int) (h:Hp):TF Tryd.prog 95 ⟨[.int .i64 op,.int .i64 a,.int .i64 b]⟩ h (.bool (holdsS op a b)) h:=by
 refine TF.still (fn:=Tryd.f95) (c:=(Tryd.f95.body.getD .skip)) Tryd.func95 (by kernel_rfl) Tryd.ntmps95 (by kernel_rfl) (by simp) ?_
 conv=>arg 2;whnf
 repeat' (first|refine Y14 ?_|refine Ym ?_|refine Yt ?_|refine Y0 ?_|refine Yx ?_|refine Y1 ?_|((refine YD ?_ ?_)<;>intro _)|((refine YG ?_ ?_)<;>intro _)|((refine YC ?_ ?_)<;>intro _)|((refine YN ?_ ?_)<;>intro _))
 all_goals refine endsK_ret _ (.cons (.tmp rfl) .nil) ⟨rfl,?_⟩
 all_goals first
  | (subst_vars;rfl)
  | (simp [resultOf,holdsS,u64,bne, *];done)
theorem u64_nn (n:Int):0≤IntKind.u64.wrap n:=by simp only [IntKind.wrap,IntKind.signed,IntKind.bits];simp;omega
theorem u64_nz {n:Int} (h0:-9223372036854775808≤n) (h1:n≤9223372036854775807) (h:¬ n=0):IntKind.u64.wrap n≠0:=by simp only [IntKind.wrap,IntKind.signed,IntKind.bits];simp;omega
def i64 (a:Int):Int:=IntKind.i64.wrap a
def quotS (op a b:Int):Int × Bool :=
 if op=6 then (if b=0∨a=-9223372036854775808∧b=-1 then (0,false) else (i64 (a.tdiv b),true))
 else if b=0 then (0,false)
 else if op=8 then (if a=-9223372036854775808∧b=-1 then (0,false) else (a.tmod b,true))
 else if op=7 then (i64 (u64 ((u64 a).tdiv (u64 b))),true)
 else (i64 ((u64 a).tmod (u64 b)),true)
def pairV (r:Int × Bool):Value:=.tuple ⟨[.int .i64 r.1,.bool r.2]⟩
@[simp] theorem pairV_free (n:Nat) (r:Int × Bool):bnd n (pairV r):=by simp [pairV]
theorem quotient_tf (op a b:Int) (h0:-9223372036854775808≤b) (h1:b≤9223372036854775807) (h:Hp):TF Tryd.prog 111 ⟨[.int .i64 op,.int .i64 a,.int .i64 b]⟩ h (pairV (quotS op a b)) h:=by
 refine TF.still (fn:=Tryd.f111) (c:=(Tryd.f111.body.getD .skip)) Tryd.func111 (by kernel_rfl) Tryd.ntmps111 (by kernel_rfl) (by simp) ?_
 conv=>arg 2;whnf
 repeat' (first|((with_reducible apply RS.quo);(iterate 4 exact rfl);(first|assumption|exact u64_nz h0 h1 (by assumption)))|((with_reducible apply RS.rem);(iterate 4 exact rfl);(first|assumption|exact u64_nz h0 h1 (by assumption)))|refine Y14 ?_|refine Yk ?_|refine Yb ?_|refine Y3 ?_|refine Y2 ?_|refine Ym ?_|refine Yn ?_|refine Y0 ?_|refine Yx ?_|refine Y1 ?_|refine Y5 ?_|refine Y6 ?_|((refine YD ?_ ?_)<;>intro _)|((refine YG ?_ ?_)<;>intro _)|((refine YC ?_ ?_)<;>intro _)|((refine YN ?_ ?_)<;>intro _))
 all_goals refine endsK_ret _ (.cons (.tmp rfl) (.cons (.tmp rfl) .nil)) ⟨rfl,?_⟩
 all_goals simp [resultOf,quotS,pairV,u64,i64, *]
def and64 (a b:Int):Int:=i64 ((BitVec.ofInt 64 a &&& BitVec.ofInt 64 b).toNat:Int)
def or64 (a b:Int):Int:=i64 ((BitVec.ofInt 64 a ||| BitVec.ofInt 64 b).toNat:Int)
def xor64 (a b:Int):Int:=i64 ((BitVec.ofInt 64 a ^^^ BitVec.ofInt 64 b).toNat:Int)
def sh63 (b:Int):Nat:=min (u64 (and64 b 63)).toNat 64
def reckonS (op a b:Int):Int × Bool :=
 if op=3 then (i64 (a+b),true) else if op=4 then (i64 (a - b),true) else if op=5 then (i64 (a * b),true)
 else if op=10 then (and64 a b,true) else if op=11 then (or64 a b,true) else if op=12 then (xor64 a b,true)
 else if op=13 then (i64 (a * 2 ^ sh63 b),true) else if op=14 then (a.fdiv (2 ^ sh63 b),true) else if op=15 then (i64 ((u64 a).fdiv (2 ^ sh63 b)),true)
 else if op=6∨op=8∨op=7∨op=9 then quotS op a b
 else (if holdsS op a b=true then 1 else 0,true)
theorem reckon_tf (op a b:Int) (h0:-9223372036854775808≤b) (h1:b≤9223372036854775807) (h:Hp):TF Tryd.prog 100 ⟨[.int .i64 op,.int .i64 a,.int .i64 b]⟩ h (pairV (reckonS op a b)) h:=by
 refine TF.still (fn:=Tryd.f100) (c:=(Tryd.f100.body.getD .skip)) Tryd.func100 (by kernel_rfl) Tryd.ntmps100 (by kernel_rfl) (by simp) ?_
 conv=>arg 2;whnf
 repeat' (first|((with_reducible apply RS.shl);(iterate 4 exact rfl);(first|exact u64_nn _|omega))|((with_reducible apply RS.shr);(iterate 4 exact rfl);(first|exact u64_nn _|omega))|((with_reducible apply RS.callP);(iterate 3 exact rfl);first|exact fun H=>holds_tf _ _ _ H;exact Nm_free (by simp)|exact fun H=>quotient_tf _ _ _ h0 h1 H;exact Nm_free (by simp))|refine Y14 ?_|refine Ym ?_|refine Yt ?_|refine Y46 ?_|refine Y0 ?_|refine Yx ?_|refine Y1 ?_|refine Y5 ?_|((refine YD ?_ ?_)<;>intro _)|((refine YG ?_ ?_)<;>intro _)|((refine YC ?_ ?_)<;>intro _)|((refine YN ?_ ?_)<;>intro _))
 all_goals refine endsK_ret _ (.cons (.tmp rfl) (.cons (.tmp rfl) .nil)) ⟨rfl,?_⟩
 all_goals first
  | (subst_vars;rfl)
  | (simp [resultOf,reckonS,pairV,u64,i64,and64,or64,xor64,sh63,IntKind.bits, *];done)
  | trace_state
def widenS (n size:Int) (s:Bool):Int :=
 if size < 1∨7 < size then n else if s=true then (i64 (n * 2 ^ min (64 - 8 * size).toNat 64)).fdiv (2 ^ min (64 - 8 * size).toNat 64)
 else i64 ((u64 (u64 n * 2 ^ min (64 - 8 * size).toNat 64)).fdiv (2 ^ min (64 - 8 * size).toNat 64))
theorem widen_tf (n size:Int) (s:Bool) (h:Hp):TF Tryd.prog 99 ⟨[.int .i64 n,.int .i64 size,.bool s]⟩ h (.int .i64 (widenS n size s)) h:=by
 refine TF.still (fn:=Tryd.f99) (c:=(Tryd.f99.body.getD .skip)) Tryd.func99 (by kernel_rfl) Tryd.ntmps99 (by kernel_rfl) (by simp) ?_
 conv=>arg 2;whnf
 repeat' (first|((with_reducible apply RS.shl);(iterate 4 exact rfl);(first|exact u64_nn _|omega))|((with_reducible apply RS.shr);(iterate 4 exact rfl);(first|exact u64_nn _|omega))|refine Y14 ?_|refine Yk ?_|refine Yb ?_|refine Ym ?_|refine Yu ?_|refine Yn ?_|refine Y0 ?_|refine Y2v ?_|refine Y1 ?_|refine Y5 ?_|((refine YD ?_ ?_)<;>intro _)|((refine YG ?_ ?_)<;>intro _)|((refine YC ?_ ?_)<;>intro _)|((refine YN ?_ ?_)<;>intro _))
 all_goals refine endsK_ret _ (.cons (.tmp rfl) .nil) ⟨rfl,?_⟩
 all_goals first
  | (simp [resultOf,widenS,u64,i64,IntKind.bits, *];done)
  | (simp only [resultOf,widenS,Value.int.injEq,true_and];rw [if_neg (by omega)];simp [u64,i64,IntKind.bits, *];done)
  | trace_state
structure ArgS where
 reg:Int
 num:Int
structure InsS where
 op:Int
 dst:Int
 a:ArgS
 b:ArgS
 size:Int
 signed:Bool
 secret:Bool
 ref:Int
 off:Int
 args:List ArgS
structure TermS where
 kind:Int
 op:Int
 a:ArgS
 b:ArgS
 goto:Int
 els:Int
structure BlockS where
 ins:List InsS
 term:TermS
structure FuncS where
 name:ByteArray
 params:Int
 secret:Nat
 regs:Int
 slots:List Int
 blocks:List BlockS
structure PartS where
 kind:Int
 data:List Int
 n:Int
structure GlobS where
 name:ByteArray
 place:Int
 size:Int
 parts:List PartS
structure ProgS where
 funcs:List FuncS
 globals:List GlobS
 data:Int
 main:Int
structure SlAt {α:Type} (h:Hp) (A:Option Addr) (w:Nat) (l:List α) (R:List Value→α→Prop):Prop where
 get:∀ i x,l[i]?=some x→∃ b off cs e,A=some ⟨b,off,none⟩∧h.m b=some ⟨⟨cs⟩,e⟩∧off+i * w+w≤cs.length∧R (takeV (off+i * w) w cs) x
theorem SlAt.nil {α:Type} {h:Hp} {A:Option Addr} {w:Nat} {R:List Value→α→Prop}:SlAt h A w ([]:List α) R:=⟨fun i x hx=>by simp at hx⟩
theorem SlAt.mono {α:Type} {h H:Hp} {A:Option Addr} {w:Nat} {l:List α} {R R':List Value→α→Prop} (s:SlAt h A w l R) (hm:∀ i b,h.m i=some b→H.m i=some b) (hr:∀ cs x,R cs x→R' cs x):SlAt H A w l R' :=
 ⟨fun i x hx=>by obtain ⟨b,off,cs,e,h1,h2,h4,h5⟩:=s.get i x hx;exact ⟨b,off,cs,e,h1,hm _ _ h2,h4,hr _ _ h5⟩⟩
def argC (a:ArgS):List Value:=[.int .i64 a.reg,.int .i64 a.num]
def argR (cs:List Value) (a:ArgS):Prop:=cs=argC a
def intR (cs:List Value) (n:Int):Prop:=cs=[.int .i64 n]
def byteR (cs:List Value) (n:Int):Prop:=cs=[.int .u8 n]
def insC (x:InsS) (A:Option Addr) (c:Nat):List Value:=[.int .i64 x.op,.int .i64 x.dst,.int .i64 x.a.reg,.int .i64 x.a.num,.int .i64 x.b.reg,.int .i64 x.b.num,.int .i64 x.size,.bool x.signed,.bool x.secret,.int .i64 x.ref,.int .i64 x.off,.slice A x.args.length c]
def insR (h:Hp) (cs:List Value) (x:InsS):Prop:=∃ A c,cs=insC x A c∧SlAt h A 2 x.args argR
def termC (t:TermS):List Value:=[.int .i64 t.kind,.int .i64 t.op,.int .i64 t.a.reg,.int .i64 t.a.num,.int .i64 t.b.reg,.int .i64 t.b.num,.int .i64 t.goto,.int .i64 t.els]
def blockC (b:BlockS) (A:Option Addr) (c:Nat):List Value:=[.slice A b.ins.length c,.int .i64 b.term.kind,.int .i64 b.term.op,.int .i64 b.term.a.reg,.int .i64 b.term.a.num,.int .i64 b.term.b.reg,.int .i64 b.term.b.num,.int .i64 b.term.goto,.int .i64 b.term.els]
def blockR (h:Hp) (cs:List Value) (b:BlockS):Prop:=∃ A c,cs=blockC b A c∧SlAt h A 12 b.ins (insR h)
def funcC (f:FuncS) (A1:Option Addr) (c1:Nat) (A2:Option Addr) (c2:Nat) (A3:Option Addr) (c3:Nat):List Value:=[.string f.name,.int .i64 f.params,.slice A1 f.secret c1,.int .i64 f.regs,.slice A2 f.slots.length c2,.slice A3 f.blocks.length c3]
def funcR (h:Hp) (cs:List Value) (f:FuncS):Prop:=∃ A1 c1 A2 c2 A3 c3,cs=funcC f A1 c1 A2 c2 A3 c3∧SlAt h A2 1 f.slots intR∧SlAt h A3 9 f.blocks (blockR h)
def partC (p:PartS) (A:Option Addr) (c:Nat):List Value:=[.int .i64 p.kind,.slice A p.data.length c,.int .i64 p.n]
def partR (h:Hp) (cs:List Value) (p:PartS):Prop:=∃ A c,cs=partC p A c∧SlAt h A 1 p.data byteR
def globC (g:GlobS) (A:Option Addr) (c:Nat):List Value:=[.string g.name,.int .i64 g.place,.int .i64 g.size,.slice A g.parts.length c]
def globR (h:Hp) (cs:List Value) (g:GlobS):Prop:=∃ A c,cs=globC g A c∧SlAt h A 3 g.parts (partR h)
def progC (p:ProgS) (A1:Option Addr) (c1:Nat) (A2:Option Addr) (c2:Nat):List Value:=[.slice A1 p.funcs.length c1,.slice A2 p.globals.length c2,.int .i64 p.data,.int .i64 p.main]
def progR (h:Hp) (cs:List Value) (p:ProgS):Prop:=∃ A1 c1 A2 c2,cs=progC p A1 c1 A2 c2∧SlAt h A1 6 p.funcs (funcR h)∧SlAt h A2 4 p.globals (globR h)
section
variable {h H:Hp} (hm:∀ i b,h.m i=some b→H.m i=some b)
include hm
theorem insR_mono {cs:List Value} {x:InsS} (r:insR h cs x):insR H cs x:=by
 obtain ⟨A,c,e,s⟩:=r;exact ⟨A,c,e,s.mono hm fun _ _ h=>h⟩
theorem blockR_mono {cs:List Value} {x:BlockS} (r:blockR h cs x):blockR H cs x:=by
 obtain ⟨A,c,e,s⟩:=r;exact ⟨A,c,e,s.mono hm fun _ _ h=>insR_mono hm h⟩
theorem funcR_mono {cs:List Value} {x:FuncS} (r:funcR h cs x):funcR H cs x:=by
 obtain ⟨A1,c1,A2,c2,A3,c3,e,s,t⟩:=r;exact ⟨A1,c1,A2,c2,A3,c3,e,s.mono hm fun _ _ h=>h,t.mono hm fun _ _ h=>blockR_mono hm h⟩
theorem partR_mono {cs:List Value} {x:PartS} (r:partR h cs x):partR H cs x:=by
 obtain ⟨A,c,e,s⟩:=r;exact ⟨A,c,e,s.mono hm fun _ _ h=>h⟩
theorem globR_mono {cs:List Value} {x:GlobS} (r:globR h cs x):globR H cs x:=by
 obtain ⟨A,c,e,s⟩:=r;exact ⟨A,c,e,s.mono hm fun _ _ h=>partR_mono hm h⟩
end
theorem take_nth {cs vs:List Value} {off w j:Nat} {v:Value} (h:takeV off w cs=vs) (hv:vs[j]?=some v):cs[off+j]?=some v:=by
 rw [takeV_eq] at h
 rw [← h] at hv
 rw [List.getElem?_take] at hv
 split at hv
 ·rw [List.getElem?_drop] at hv;exact hv
 ·cases hv
def fitI (n:Int):Prop:=-9223372036854775808≤n∧n≤9223372036854775807
def ArgS.ok (a:ArgS):Prop:=fitI a.reg∧fitI a.num
structure InsS.ok (x:InsS):Prop where
 op:fitI x.op
 dst:fitI x.dst
 a:x.a.ok
 b:x.b.ok
 size:fitI x.size
 ref:fitI x.ref
 off:fitI x.off
 n:x.args.length≤281474976710656
 args:∀ a∈x.args,a.ok
structure TermS.ok (x:TermS):Prop where
 kind:fitI x.kind
 op:fitI x.op
 a:x.a.ok
 b:x.b.ok
 goto:fitI x.goto
 els:fitI x.els
structure BlockS.ok (x:BlockS):Prop where
 n:x.ins.length≤281474976710656
 ins:∀ a∈x.ins,a.ok
 term:x.term.ok
structure FuncS.ok (x:FuncS):Prop where
 params:fitI x.params
 regs:fitI x.regs
 nsec:x.secret≤281474976710656
 nslots:x.slots.length≤281474976710656
 slots:∀ a∈x.slots,fitI a
 nblocks:x.blocks.length≤281474976710656
 blocks:∀ a∈x.blocks,a.ok
structure PartS.ok (x:PartS):Prop where
 kind:fitI x.kind
 n:fitI x.n
 ndata:x.data.length≤281474976710656
 data:∀ a∈x.data,0≤a∧a≤255
structure GlobS.ok (x:GlobS):Prop where
 place:fitI x.place
 size:fitI x.size
 nparts:x.parts.length≤281474976710656
 parts:∀ a∈x.parts,a.ok
structure ProgS.ok (x:ProgS):Prop where
 nfuncs:x.funcs.length≤281474976710656
 funcs:∀ a∈x.funcs,a.ok
 nglobs:x.globals.length≤281474976710656
 globs:∀ a∈x.globals,a.ok
 data:fitI x.data
 main:fitI x.main
def argsS (regs:Int) (l:List ArgS):Bool:=l.all fun a=>decide (-1≤a.reg) && decide (a.reg < regs)
theorem TF.dom {P:Program} {h h':Hp} {g:FuncId} {args:Array Value} {v:Value} (ht:(∀ i b,h.m i=some b→i < h.n)→TF P g args h v h'):TF P g args h v h':=fun ha ρ W hok=>ht hok.lt ha ρ W hok
theorem args_tf (fb fo:Nat) (fcs:List Value) (fe:TypeId) (regs:Int) (l:List ArgS) (A:Option Addr) (c:Nat) (h:Hp) (hF:h.m fb=some ⟨⟨fcs⟩,fe⟩) (hFv:fcs[fo+3]?=some (.int .i64 regs)) (hl:SlAt h A 2 l argR) (hn:l.length≤1000000000000000) :
 TF Tryd.prog 85 ⟨[.pointer (some ⟨fb,fo,none⟩),.slice A l.length c]⟩ h (.bool (argsS regs l)) h:=by
 refine TF.dom fun hd=>?_
 have hFn:=hd _ _ hF
 refine TF.still (fn:=Tryd.f85) (c:=(Tryd.f85.body.getD .skip)) Tryd.func85 (by kernel_rfl) Tryd.ntmps85 (by kernel_rfl) (by simp) ?_
 conv=>arg 2;whnf
 repeat (first|refine Y4c ?_|refine Y0 ?_|refine Y1e ?_|refine Y1 ?_)
 refine W.loop (X:=Nat) (fun π i=>[(0,.pointer (some ⟨fb,fo,none⟩)),(7,.slice A l.length c),(8,.int .i64 l.length),(9,.int .i64 i)]) (fun _=>h) (fun π i=>[]) (fun i=>i≤l.length∧(argsS regs l=(l.drop i).all fun a=>decide (-1≤a.reg) && decide (a.reg < regs))) (fun i=>l.length - i) [] 0 ⟨Nat.zero_le _,rfl⟩ (by (refine FitL.mk ?_ ?_ ?_ ?_<;>(repeat' (first|exact trivial|exact rfl|apply And.intro));done)) ?_
 intro π i hI
 obtain ⟨hi,hI⟩:=hI
 dsimp only at hi hI ⊢
 by_cases hlt:i < l.length
 ·obtain ⟨a,ha⟩:∃ a,l[i]?=some a:=⟨_,List.getElem?_eq_getElem hlt⟩
  obtain ⟨ab,ao,acs,ae,rfl,hB,hBl,hBv⟩:=hl.get i a ha
  have hBn:=hd _ _ hB
  have hdr:l.drop i=a::l.drop (i+1):=by
   rw [List.drop_eq_getElem_cons hlt]
   rw [List.getElem?_eq_getElem hlt] at ha
   injection ha with ha
   rw [ha]
  rw [hdr,List.all_cons] at hI
  repeat' (first|refine Ya ?_|refine Y40 ?_|((with_reducible apply RS.load1B);(iterate 3 exact rfl);exact hF;exact hFn;exact hFv)|refine Y19 ?_|refine Yk ?_|refine Yb ?_|refine Y3 ?_|refine Ym ?_|refine Yd ?_|refine Yt ?_|refine Y7 ?_|refine Y4 ?_|refine Yf ?_|refine Yn ?_|refine Y0 ?_|refine Y1v ?_|refine Y1 ?_|refine Y5 ?_|((refine YD ?_ ?_)<;>intro _)|((refine YG ?_ ?_)<;>intro _)|((refine YC ?_ ?_)<;>intro _)|((refine YN ?_ ?_)<;>intro _))
  ·refine endsK_ret _ (.cons (.tmp rfl) .nil) ⟨rfl,?_⟩
   rw [hI];simp [resultOf];omega
  ·refine endsK_ret _ (.cons (.tmp rfl) .nil) ⟨rfl,?_⟩
   rw [hI];simp [resultOf];omega
  ·exact roundK_n (i+1) [] rfl rfl ⟨by omega,by rw [hI];simp;omega⟩ (by omega) (by (refine FitL.mk ?_ ?_ ?_ ?_<;>(repeat' (first|exact trivial|exact rfl|apply And.intro));done))
 ·repeat (first|refine Y15 ?_|refine Y2 ?_|refine Y0 ?_|refine Y1r ?_|refine Y1 ?_|refine Y6 ?_|refine Yl ?_)
  refine endsK_ret _ (.cons (.tmp rfl) .nil) ⟨rfl,?_⟩
  rw [hI,List.drop_eq_nil_of_le (by omega)];rfl
end Go.Proofs.YtjhloakacicdiaaDoor
