/-
  What the functions that the law reaches compute,told by plain data;it holds of programs that pass the check of right form and are light.
-/
import Derived.KernelRfl
import Derived.Test.YtgpigfcagppohaaGreatDoorR3
import Derived.Test.YtgpigfcagppohaaGreatDoorRows
import Derived.Test.YtgpigfcagppohaaGreatDoorS1
set_option linter.unusedVariables false
set_option linter.unusedSimpArgs false
namespace Go.Proofs.YtgpigfcagppohaaGreatDoor
open Go.AH
structure Y0q (q:Prop):Prop where
 a:q
theorem YD {p q r:Prop} (h1:q) (h2:r) (h:Y0q q→Y0q r→p:=by intro zq1 zq2;(first|((with_reducible apply RS.splitD);(iterate 2 exact rfl))|fail);exact zq1.1;exact zq2.1):p:=h ⟨h1⟩ ⟨h2⟩
theorem YG {p q r:Prop} (h1:q) (h2:r) (h:Y0q q→Y0q r→p:=by intro zq1 zq2;(first|((with_reducible apply RS.splitG);(iterate 2 exact rfl);(fail_if_success exact fun h=>nomatch (h:true=false));(fail_if_success exact fun h=>nomatch (h:false=true)))|fail);exact zq1.1;(fail_if_success exact fun h=>nomatch (h:true=false));(fail_if_success exact fun h=>nomatch (h:false=true));exact zq2.1):p:=h ⟨h1⟩ ⟨h2⟩
theorem YC {p q r:Prop} (h1:q) (h2:r) (h:Y0q q→Y0q r→p:=by intro zq1 zq2;(first|((with_reducible apply W.condD);exact rfl)|fail);exact zq1.1;exact zq2.1):p:=h ⟨h1⟩ ⟨h2⟩
theorem YN {p q r:Prop} (h1:q) (h2:r) (h:Y0q q→Y0q r→p:=by intro zq1 zq2;(first|((with_reducible apply W.cond);exact rfl;(fail_if_success exact fun h=>nomatch (h:true=false));(fail_if_success exact fun h=>nomatch (h:false=true)))|fail);exact zq1.1;(fail_if_success exact fun h=>nomatch (h:true=false));(fail_if_success exact fun h=>nomatch (h:false=true));exact zq2.1):p:=h ⟨h1⟩ ⟨h2⟩
theorem Y0 {p q:Prop} (hq:q) (h:Y0q q→p:=by intro zq;(first|((with_reducible apply RS.nil);exact mixed;kernel_rfl)|fail);exact zq.1):p:=h ⟨hq⟩
theorem Y1 {p q:Prop} (hq:q) (h:Y0q q→p:=by intro zq;(first|((with_reducible apply W.reg);kernel_rfl)|fail);exact zq.1):p:=h ⟨hq⟩
theorem Y2 {p q:Prop} (hq:q) (h:Y0q q→p:=by intro zq;(first|((with_reducible apply RS.store);(iterate 5 exact rfl);exact Nat.le_of_ble_eq_true rfl;(iterate 3 exact rfl))|fail);exact zq.1):p:=h ⟨hq⟩
theorem Y3 {p q:Prop} (hq:q) (h:Y0q q→p:=by intro zq;(first|((with_reducible apply W.condF);kernel_rfl;exact rfl)|fail);exact zq.1):p:=h ⟨hq⟩
theorem Y4 {p q:Prop} (hq:q) (h:Y0q q→p:=by intro zq;(first|((with_reducible apply RS.cmpF);(iterate 4 exact rfl);(simp only [cmpN];omega))|fail);exact zq.1):p:=h ⟨hq⟩
theorem Y5 {p q:Prop} (hq:q) (h:Y0q q→p:=by intro zq;(first|((with_reducible apply W.condT);kernel_rfl;exact rfl)|fail);exact zq.1):p:=h ⟨hq⟩
theorem Y6 {p q:Prop} (hq:q) (h:Y0q q→p:=by intro zq;(first|((with_reducible apply RS.cmpT);(iterate 4 exact rfl);(simp only [cmpP];omega))|fail);exact zq.1):p:=h ⟨hq⟩
theorem Y7 {p q:Prop} (hq:q) (h:Y0q q→p:=by intro zq;(first|((with_reducible first|apply RS.move|apply RS.assign);(iterate 3 exact rfl))|fail);exact zq.1):p:=h ⟨hq⟩
theorem Y8 {p q:Prop} (hq:q) (h:Y0q q→p:=by intro zq;(first|((with_reducible first|apply RS.nilCheck|apply RS.move|apply RS.assign|apply RS.fieldAddr);(iterate 3 exact rfl))|fail);exact zq.1):p:=h ⟨hq⟩
theorem Y9 {p q:Prop} (hq:q) (h:Y0q q→p:=by intro zq;(first|((with_reducible apply RS.alloc);(iterate 2 exact rfl))|fail);exact zq.1):p:=h ⟨hq⟩
theorem Ya {p q:Prop} (hq:q) (h:Y0q q→p:=by intro zq;(first|((with_reducible apply RS.build);(iterate 4 exact rfl))|fail);exact zq.1):p:=h ⟨hq⟩
theorem Yb {p q:Prop} (hq:q) (h:Y0q q→p:=by intro zq;(first|((with_reducible apply (RS.callA (g0:=21)));(iterate 3 exact rfl);exact fun B' hB'=>cok_tf (w.abs hB').c.w (decide_eq_true (by assumption)))|fail);exact zq.1):p:=h ⟨hq⟩
theorem Yc {p q:Prop} (hq:q) (h:Y0q q→p:=by intro zq;(first|((with_reducible apply RS.pickF);(iterate 4 exact rfl))|fail);exact zq.1):p:=h ⟨hq⟩
theorem Yd {p q:Prop} (hq:q) (h:Y0q q→p:=by intro zq;(first|((with_reducible apply RS.pickT);(iterate 4 exact rfl))|fail);exact zq.1):p:=h ⟨hq⟩
theorem Ye {p q:Prop} (hq:q) (h:Y0q q→p:=by intro zq;(first|((with_reducible apply RS.binStr);(iterate 4 exact rfl);exact congrArg (fun b=>some (Value.bool b)) (by assumption))|fail);exact zq.1):p:=h ⟨hq⟩
theorem Yf {p q:Prop} (hq:q) (h:Y0q q→p:=by intro zq;(first|((with_reducible first|apply RS.nilCheck|apply RS.move|apply RS.fieldAddr);(iterate 3 exact rfl))|fail);exact zq.1):p:=h ⟨hq⟩
theorem Yg {p q:Prop} (hq:q) (h:Y0q q→p:=by intro zq;(first|((with_reducible apply RS.loadN);(iterate 5 exact rfl);exact Nat.le_of_ble_eq_true rfl)|fail);exact zq.1):p:=h ⟨hq⟩
theorem Yh {p q:Prop} (hq:q) (h:Y0q q→p:=by intro zq;(first|((with_reducible apply RS.load1);(iterate 6 exact rfl))|fail);exact zq.1):p:=h ⟨hq⟩
theorem Yi {p q:Prop} (hq:q) (h:Y0q q→p:=by intro zq;(first|((with_reducible apply RS.buildSlice);(iterate 8 exact rfl))|fail);exact zq.1):p:=h ⟨hq⟩
theorem Yj {p q:Prop} (hq:q) (h:Y0q q→p:=by intro zq;(first|((with_reducible first|apply RS.nilCheck|apply RS.move|apply RS.assign|apply RS.fieldAddr|apply RS.box);(iterate 3 exact rfl))|fail);exact zq.1):p:=h ⟨hq⟩
theorem Yk {p q:Prop} (hq:q) (h:Y0q q→p:=by intro zq;(first|((with_reducible apply RS.skip);(iterate 2 exact rfl))|fail);exact zq.1):p:=h ⟨hq⟩
theorem Yl {p q:Prop} (hq:q) (h:Y0q q→p:=by intro zq;(first|((with_reducible first|apply RS.nilCheck|apply RS.move|apply RS.assign|apply RS.not|apply RS.fieldAddr);(iterate 3 exact rfl))|fail);exact zq.1):p:=h ⟨hq⟩
theorem Ym {p q:Prop} (hq:q) (h:Y0q q→p:=by intro zq;(first|(with_reducible apply thenK_n)|fail);exact zq.1):p:=h ⟨hq⟩
theorem Yn {p q:Prop} (hq:q) (h:Y0q q→p:=by intro zq;(first|((with_reducible apply blockK_hit);exact rfl)|fail);exact zq.1):p:=h ⟨hq⟩
theorem Yo {p q:Prop} (hq:q) (h:Y0q q→p:=by intro zq;(first|((with_reducible apply RS.cmpC);(iterate 5 exact rfl))|fail);exact zq.1):p:=h ⟨hq⟩
theorem Yp {p q:Prop} (hq:q) (h:Y0q q→p:=by intro zq;(first|((with_reducible apply RS.add1);(iterate 4 exact rfl);omega)|fail);exact zq.1):p:=h ⟨hq⟩
theorem Yq {p q:Prop} (hq:q) (h:Y0q q→p:=by intro zq;(first|((with_reducible first|apply W.seq|apply W.ret|apply thenK_n))|fail);exact zq.1):p:=h ⟨hq⟩
theorem Yr {p q:Prop} (hq:q) (h:Y0q q→p:=by intro zq;(first|((with_reducible apply (RS.nil (draw:=false)));exact mixed;kernel_rfl)|fail);exact zq.1):p:=h ⟨hq⟩
theorem Ys {p q:Prop} (hq:q) (h:Y0q q→p:=by intro zq;(first|((with_reducible first|apply W.seq|apply W.block|apply W.ret|apply W.skip|apply thenK_n|apply thenK_r|apply blockK_r))|fail);exact zq.1):p:=h ⟨hq⟩
theorem Yt {p q:Prop} (hq:q) (h:Y0q q→p:=by intro zq;(first|((with_reducible first|apply W.seq|apply W.block|apply W.skip|apply thenK_n|apply blockK_n))|fail);exact zq.1):p:=h ⟨hq⟩
theorem Yu {p q:Prop} (hq:q) (h:Y0q q→p:=by intro zq;(first|((with_reducible first|apply RS.move|apply RS.assign|apply RS.fieldAddr);(iterate 3 exact rfl))|fail);exact zq.1):p:=h ⟨hq⟩
theorem Yv {p q:Prop} (hq:q) (h:Y0q q→p:=by intro zq;(first|((with_reducible first|apply W.seq|apply W.ret|apply W.skip|apply thenK_n))|fail);exact zq.1):p:=h ⟨hq⟩
theorem Yw {p q:Prop} (hq:q) (h:Y0q q→p:=by intro zq;(first|((with_reducible apply RS.assign);(iterate 3 exact rfl))|fail);exact zq.1):p:=h ⟨hq⟩
theorem Yx {p q:Prop} (hq:q) (h:Y0q q→p:=by intro zq;(first|((with_reducible apply RS.load1B);(iterate 3 exact rfl);exact q.o.keep hT tn tne;exact q.d _ _ (q.o.keep hT tn tne);exact rfl)|fail);exact zq.1):p:=h ⟨hq⟩
theorem Yy {p q:Prop} (hq:q) (h:Y0q q→p:=by intro zq;(first|((with_reducible first|apply RS.nilCheck|apply RS.move|apply RS.lenSl|apply RS.fieldAddr);(iterate 3 exact rfl))|fail);exact zq.1):p:=h ⟨hq⟩
theorem Yz {p q:Prop} (hq:q) (h:Y0q q→p:=by intro zq;(first|((with_reducible first|apply W.seq|apply W.block|apply W.ret|apply thenK_n|apply thenK_r|apply blockK_r))|fail);exact zq.1):p:=h ⟨hq⟩
theorem Y10 {p q:Prop} (hq:q) (h:Y0q q→p:=by intro zq;(first|((with_reducible apply RS.indexAddrS);(iterate 4 exact rfl);(first|exact Int.ofNat_zero.symm|exact (rfl:(1:Int)=((1:Nat):Int))|exact (rfl:(2:Int)=((2:Nat):Int))|exact (rfl:(3:Int)=((3:Nat):Int)));exact Nat.le_of_ble_eq_true rfl)|fail);exact zq.1):p:=h ⟨hq⟩
theorem Y11 {p q:Prop} (hq:q) (h:Y0q q→p:=by intro zq;(first|((with_reducible apply RS.move);(iterate 3 exact rfl))|fail);exact zq.1):p:=h ⟨hq⟩
theorem Y12 {p q:Prop} (hq:q) (h:Y0q q→p:=by intro zq;(first|((with_reducible apply RS.load1B);(iterate 3 exact rfl);exact hxm;exact w.d _ _ hxm;exact rfl)|fail);exact zq.1):p:=h ⟨hq⟩
theorem Y13 {p q:Prop} (hq:q) (h:Y0q q→p:=by intro zq;(first|((with_reducible first|apply W.seq|apply W.ret|apply thenK_n|apply thenK_r))|fail);exact zq.1):p:=h ⟨hq⟩
theorem Y14 {p q:Prop} (hq:q) (h:Y0q q→p:=by intro zq;(first|((with_reducible apply (RS.callA (g0:=31)));(iterate 3 exact rfl);exact fun B' hB'=>tok_tf hL (q.p.absd q.d hB'))|fail);exact zq.1):p:=h ⟨hq⟩
theorem Y15 {p q:Prop} (hq:q) (h:Y0q q→p:=by intro zq;(first|((with_reducible apply (RS.indexAddrS (n:=0)));(iterate 5 exact rfl);exact Nat.le_of_ble_eq_true rfl)|fail);exact zq.1):p:=h ⟨hq⟩
theorem Y16 {p q:Prop} (hq:q) (h:Y0q q→p:=by intro zq;(first|((with_reducible first|apply RS.nilCheck|apply RS.move|apply RS.not|apply RS.fieldAddr);(iterate 3 exact rfl))|fail);exact zq.1):p:=h ⟨hq⟩
theorem Y17 {p q:Prop} (hq:q) (h:Y0q q→p:=by intro zq;(first|((with_reducible first|apply RS.nilCheck|apply RS.move|apply RS.assign|apply RS.not|apply RS.fieldAddr|apply RS.box);(iterate 3 exact rfl))|fail);exact zq.1):p:=h ⟨hq⟩
theorem Y18 {p q:Prop} (hq:q) (h:Y0q q→p:=by intro zq;(first|((with_reducible first|apply W.seq|apply W.block|apply W.ret|apply W.skip|apply thenK_n|apply blockK_n))|fail);exact zq.1):p:=h ⟨hq⟩
theorem Y19 {p q:Prop} (hq:q) (h:Y0q q→p:=by intro zq;(first|((with_reducible apply RS.sliceStr);(iterate 3 exact rfl);(first|exact ⟨_,_,rfl,rfl⟩|exact rfl);(first|exact ⟨_,_,rfl,rfl⟩|exact rfl);omega;omega)|fail);exact zq.1):p:=h ⟨hq⟩
theorem Y1a {p q:Prop} (hq:q) (h:Y0q q→p:=by intro zq;(first|((with_reducible apply (RS.growXL (j:=q.lb) (i:=0)));(iterate 2 exact rfl);exact hsw;(iterate 3 exact rfl);exact hgm;exact w.d _ _ hgm;exact hgs.rw;exact hgl;(iterate 2 exact rfl);exact Nat.le_of_ble_eq_true rfl;exact rfl;exact Nat.le_trans (Nat.mul_le_mul_right _ (show v.lc.length+1≤100 from by omega)) (Nat.le_of_ble_eq_true rfl);exact Nat.le_trans (show v.lc.length+1≤100 from by omega) (Nat.le_of_ble_eq_true rfl))|fail);exact zq.1):p:=h ⟨hq⟩
theorem Y1b {p q:Prop} (hq:q) (h:Y0q q→p:=by intro zq;(first|((with_reducible apply (RS.callA (g0:=66)));(iterate 3 exact rfl);first|exact fun B' hB'=>takeN_tf hL (w.q.p.absd w.q.d hB') _ i1|exact fun B' hB'=>takeN_tf hL (w.q.p.absd w.q.d hB') _ i2|exact fun B' hB'=>takeN_tf hL (w.q.p.absd w.q.d hB') _ i3|exact fun B' hB'=>takeN_tf hL (w.q.p.absd w.q.d hB') _ i4|exact fun B' hB'=>takeN_tf hL (w.q.p.absd w.q.d hB') _ i5|exact fun B' hB'=>takeN_tf hL (w.q.p.absd w.q.d hB') _ i6|exact fun B' hB'=>takeN_tf hL (w.q.p.absd w.q.d hB') _ i7|exact fun B' hB'=>takeN_tf hL (w.q.p.absd w.q.d hB') _ i8|exact fun B' hB'=>takeN_tf hL (w.q.p.absd w.q.d hB') _ i9)|fail);exact zq.1):p:=h ⟨hq⟩
theorem Y1c {p q:Prop} (hq:q) (h:Y0q q→p:=by intro zq;(first|((with_reducible first|apply RS.nilCheck|apply RS.move|apply RS.assign|apply RS.lenSl|apply RS.fieldAddr);(iterate 3 exact rfl))|fail);exact zq.1):p:=h ⟨hq⟩
theorem Y1d {p q:Prop} (hq:q) (h:Y0q q→p:=by intro zq;(first|((with_reducible first|apply W.seq|apply W.skip|apply thenK_n))|fail);exact zq.1):p:=h ⟨hq⟩
theorem Y1e {p q:Prop} (hq:q) (h:Y0q q→p:=by intro zq;(first|((with_reducible apply RS.lenStr);(iterate 3 exact rfl))|fail);exact zq.1):p:=h ⟨hq⟩
theorem Y1f {p q:Prop} (hq:q) (h:Y0q q→p:=by intro zq;(first|((with_reducible apply RS.load1B);(iterate 3 exact rfl);exact p.par;exact pn;exact rfl)|fail);exact zq.1):p:=h ⟨hq⟩
theorem Y1g {p q:Prop} (hq:q) (h:Y0q q→p:=by intro zq;(first|((with_reducible apply RS.load1B);(iterate 3 exact rfl);exact hsm;exact w.d _ _ hsm;exact rfl)|fail);exact zq.1):p:=h ⟨hq⟩
theorem Y1h {p q:Prop} (hq:q) (h:Y0q q→p:=by intro zq;(first|((with_reducible first|apply W.skip|apply thenK_n))|fail);exact zq.1):p:=h ⟨hq⟩
theorem Y1i {p q:Prop} (hq:q) (h:Y0q q→p:=by intro zq;(first|((with_reducible apply (RS.indexAddrS (n:=1)));(iterate 5 exact rfl);exact Nat.le_of_ble_eq_true rfl)|fail);exact zq.1):p:=h ⟨hq⟩
theorem Y1j {p q:Prop} (hq:q) (h:Y0q q→p:=by intro zq;(first|((with_reducible apply (RS.callA (g0:=21)));(iterate 3 exact rfl);exact fun B' hB'=>cok_tf (w.abs hB').c.w (decide_eq_false (by assumption)))|fail);exact zq.1):p:=h ⟨hq⟩
theorem Y1k {p q:Prop} (hq:q) (h:Y0q q→p:=by intro zq;(first|((with_reducible apply RS.storeB);(iterate 3 exact rfl);exact p.par;exact pn;exact p.rw;exact Nat.le_of_ble_eq_true rfl;(iterate 3 exact rfl))|fail);exact zq.1):p:=h ⟨hq⟩
theorem Y1l {p q:Prop} (hq:q) (h:Y0q q→p:=by intro zq;(first|((with_reducible apply WR.step))|fail);exact zq.1):p:=h ⟨hq⟩
theorem Y1m {p q:Prop} (hq:q) (h:Y0q q→p:=by intro zq;(first|((with_reducible first|apply W.seq|apply W.block|apply W.ret|apply W.skip|apply thenK_n|apply thenK_r|apply blockK_n|apply blockK_r))|fail);exact zq.1):p:=h ⟨hq⟩
theorem Y1n {p q:Prop} (hq:q) (h:Y0q q→p:=by intro zq;(first|((with_reducible apply (RS.appendNil (i:=0)));(iterate 2 exact rfl);exact hsn;(iterate 5 exact rfl);exact Nat.le_of_ble_eq_true rfl;exact Nat.lt_succ_self 0;exact Nat.le_of_ble_eq_true rfl;exact Nat.le_of_ble_eq_true rfl)|fail);exact zq.1):p:=h ⟨hq⟩
theorem Y1o {p q:Prop} (hq:q) (h:Y0q q→p:=by intro zq;(first|((with_reducible first|apply RS.move|apply RS.assign|apply RS.not);(iterate 3 exact rfl))|fail);exact zq.1):p:=h ⟨hq⟩
theorem Y1p {p q:Prop} (hq:q) (h:Y0q q→p:=by intro zq;(first|((with_reducible first|apply W.seq|apply W.ret|apply W.skip|apply thenK_n|apply thenK_r))|fail);exact zq.1):p:=h ⟨hq⟩
theorem Y1q {p q:Prop} (hq:q) (h:Y0q q→p:=by intro zq;(first|((with_reducible apply RS.binFit);(iterate 5 exact rfl);omega)|fail);exact zq.1):p:=h ⟨hq⟩
theorem Y1r {p q:Prop} (hq:q) (h:Y0q q→p:=by intro zq;(first|((with_reducible first|apply RS.move|apply RS.fieldAddr);(iterate 3 exact rfl))|fail);exact zq.1):p:=h ⟨hq⟩
theorem Y1s {p q:Prop} (hq:q) (h:Y0q q→p:=by intro zq;(first|((with_reducible apply RS.load1B);(iterate 3 exact rfl);first|exact hxm;exact w.d _ _ hxm;exact rfl|exact hkm;exact w.d _ _ hkm;exact rfl)|fail);exact zq.1):p:=h ⟨hq⟩
theorem Y1t {p q:Prop} (hq:q) (h:Y0q q→p:=by intro zq;(first|((with_reducible first|apply W.seq|apply W.exit|apply W.ret|apply thenK_n|apply thenK_e|apply roundN_e))|fail);exact zq.1):p:=h ⟨hq⟩
theorem Y1u {p q:Prop} (hq:q) (h:Y0q q→p:=by intro zq;(first|((with_reducible apply RS.load1B);(iterate 3 exact rfl);exact q.p.par;exact q.d _ _ q.p.par;exact rfl)|fail);exact zq.1):p:=h ⟨hq⟩
theorem Y1v {p q:Prop} (hq:q) (h:Y0q q→p:=by intro zq;(first|((with_reducible apply RS.load1B);(iterate 3 exact rfl);exact hma;exact s0.dom _ _ hma;exact rfl)|fail);exact zq.1):p:=h ⟨hq⟩
theorem Y1w {p q:Prop} (hq:q) (h:Y0q q→p:=by intro zq;(first|((with_reducible first|apply W.seq|apply W.block|apply W.exit|apply W.ret|apply W.skip|apply thenK_n|apply thenK_e|apply blockK_n))|fail);exact zq.1):p:=h ⟨hq⟩
theorem Y1x {p q:Prop} (hq:q) (h:Y0q q→p:=by intro zq;(first|((with_reducible first|apply W.seq|apply thenK_n))|fail);exact zq.1):p:=h ⟨hq⟩
theorem Y1y {p q:Prop} (hq:q) (h:Y0q q→p:=by intro zq;(first|((with_reducible apply RS.loadNB);(iterate 3 exact rfl);exact h5;exact w.d _ _ h5;exact Nat.le_of_ble_eq_true rfl;exact rfl)|fail);exact zq.1):p:=h ⟨hq⟩
theorem Y1z {p q:Prop} (hq:q) (h:Y0q q→p:=by intro zq;(first|((with_reducible first|apply RS.nilCheck|apply RS.move|apply RS.assign|apply RS.lenSl|apply RS.not|apply RS.fieldAddr);(iterate 3 exact rfl))|fail);exact zq.1):p:=h ⟨hq⟩
theorem Y20 {p q:Prop} (hq:q) (h:Y0q q→p:=by intro zq;(first|((with_reducible apply (RS.indexAddrS (n:=k)));(iterate 2 exact rfl);exact congrArg (fun a=>some (Value.slice a st.nm.length q.nc)) hna;exact rfl;exact (by omega);exact hk)|fail);exact zq.1):p:=h ⟨hq⟩
theorem Y21 {p q:Prop} (hq:q) (h:Y0q q→p:=by intro zq;(first|((with_reducible apply (RS.indexAddrS (n:=i)));(iterate 2 exact rfl);exact congrArg (fun a=>some (Value.slice a st.nm.length q.nc)) hna;(iterate 2 exact rfl);exact hi)|fail);exact zq.1):p:=h ⟨hq⟩
theorem Y22 {p q:Prop} (hq:q) (h:Y0q q→p:=by intro zq;(first|((with_reducible apply (RS.callP (g0:=125)));(iterate 3 exact rfl);first|exact fun H=>px H;exact Nm_free (intC_free _)|exact fun H=>py H;exact Nm_free (intC_free _))|fail);exact zq.1):p:=h ⟨hq⟩
theorem Y23 {p q:Prop} (hq:q) (h:Y0q q→p:=by intro zq;(first|((with_reducible apply roundR_e))|fail);exact zq.1):p:=h ⟨hq⟩
theorem Y24 {p q:Prop} (hq:q) (h:Y0q q→p:=by intro zq;(first|((with_reducible first|apply W.block|apply thenK_n))|fail);exact zq.1):p:=h ⟨hq⟩
theorem Y25 {p q:Prop} (hq:q) (h:Y0q q→p:=by intro zq;(first|((with_reducible first|apply RS.move|apply RS.not);(iterate 3 exact rfl))|fail);exact zq.1):p:=h ⟨hq⟩
theorem Y26 {p q:Prop} (hq:q) (h:Y0q q→p:=by intro zq;(first|((with_reducible first|apply RS.move|apply RS.fieldAddr|apply RS.box);(iterate 3 exact rfl))|fail);exact zq.1):p:=h ⟨hq⟩
theorem Y27 {p q:Prop} (hq:q) (h:Y0q q→p:=by intro zq;(first|((with_reducible apply (RS.storeB (cs':=[.int .i64 st.fk,.int .i64 st.fa,ptrC q.ub,ptrC q.pb,F,.slice (some ⟨nb,0,none⟩) _ (capOf 3),.int .i64 ((st.depth - 1:Nat):Int),.int .i64 0,.int .i64 0])));(iterate 3 exact rfl);exact wB.c;exact hdB _ _ wB.c;exact wB.cw;exact Nat.le_of_ble_eq_true rfl;(iterate 3 exact rfl))|fail);exact zq.1):p:=h ⟨hq⟩
theorem Y28 {p q:Prop} (hq:q) (h:Y0q q→p:=by intro zq;(first|((with_reducible apply (RS.storeB (cs':=bodyC 2 p i (.pointer none) none 0 0)));(iterate 3 exact rfl);exact (if_pos hon).trans hob3;exact hon;exact how;exact Nat.le_of_ble_eq_true rfl;(iterate 3 exact rfl))|fail);exact zq.1):p:=h ⟨hq⟩
theorem Y29 {p q:Prop} (hq:q) (h:Y0q q→p:=by intro zq;(first|((with_reducible apply RS.extract);(iterate 4 exact rfl))|fail);exact zq.1):p:=h ⟨hq⟩
theorem Y2a {p q:Prop} (hq:q) (h:Y0q q→p:=by intro zq;(first|((with_reducible apply (RS.loadNB (vs:=nmC x)));(iterate 3 exact rfl);exact hmb;exact w.d _ _ hmb;exact hlen;exact htk)|fail);exact zq.1):p:=h ⟨hq⟩
theorem Y2b {p q:Prop} (hq:q) (h:Y0q q→p:=by intro zq;(first|((with_reducible apply RS.cmpNat);(iterate 5 exact rfl))|fail);exact zq.1):p:=h ⟨hq⟩
theorem Y2c {p q:Prop} (hq:q) (h:Y0q q→p:=by intro zq;(first|((with_reducible apply RS.load1B);(iterate 3 exact rfl);first|exact wB.c;exact sB.dom _ _ wB.c;exact rfl|exact UB.m;exact sB.dom _ _ UB.m;exact rfl)|fail);exact zq.1):p:=h ⟨hq⟩
theorem Y2d {p q:Prop} (hq:q) (h:Y0q q→p:=by intro zq;(first|((with_reducible apply RS.load1B);(iterate 3 exact rfl);first|exact hma;exact s0.dom _ _ hma;exact rfl|exact hmb;exact s0.dom _ _ hmb;exact rfl)|fail);exact zq.1):p:=h ⟨hq⟩
theorem Y2e {p q:Prop} (hq:q) (h:Y0q q→p:=by intro zq;(first|((with_reducible apply RS.catL);(iterate 4 exact rfl);(simp only [List.append_eq,List.length_append,List.length_cons,List.length_nil]<;>omega))|fail);exact zq.1):p:=h ⟨hq⟩
theorem Y2f {p q:Prop} (hq:q) (h:Y0q q→p:=by intro zq;(first|((with_reducible apply (RS.callA (g0:=30)));(iterate 3 exact rfl);exact fun B' hB'=>ok_tf (p.off ⟨hB'.le,hB'.old⟩ s0.dom) (decide_eq_true hf))|fail);exact zq.1):p:=h ⟨hq⟩
theorem Y2g {p q:Prop} (hq:q) (h:Y0q q→p:=by intro zq;(first|((with_reducible apply (RS.appendNil (i:=0)));(iterate 8 exact rfl);exact Nat.le_of_ble_eq_true rfl;exact Nat.lt_succ_self 0;exact Nat.le_of_ble_eq_true rfl;exact Nat.le_of_ble_eq_true rfl)|fail);exact zq.1):p:=h ⟨hq⟩
theorem Y2h {p q:Prop} (hq:q) (h:Y0q q→p:=by intro zq;(first|((with_reducible apply (RS.callB (g0:=44)));(iterate 3 exact rfl);exact fun H hH=>sizeA_tf hs _ (TyE.up (KeptX.of fun i b hb=>(hH _ (s0.dom _ _ hb)).trans hb) ht);exact Nm_free (by simp))|fail);exact zq.1):p:=h ⟨hq⟩
theorem Y2i {p q:Prop} (hq:q) (h:Y0q q→p:=by intro zq;(first|((with_reducible apply RS.load1B);(iterate 3 exact rfl);first|exact w.c.w.c;exact w.d _ _ w.c.w.c;exact rfl|exact h4;exact w.d _ _ h4;exact rfl|exact w.c.f;exact w.d _ _ w.c.f;exact rfl)|fail);exact zq.1):p:=h ⟨hq⟩
theorem Y2j {p q:Prop} (hq:q) (h:Y0q q→p:=by intro zq;(first|((with_reducible apply RS.load1B);(iterate 3 exact rfl);exact h4;exact w.d _ _ h4;exact rfl)|fail);exact zq.1):p:=h ⟨hq⟩
theorem Y2k {p q:Prop} (hq:q) (h:Y0q q→p:=by intro zq;(first|((with_reducible apply RS.load1B);(iterate 3 exact rfl);exact h5;exact w.d _ _ h5;exact rfl)|fail);exact zq.1):p:=h ⟨hq⟩
theorem Y2l {p q:Prop} (hq:q) (h:Y0q q→p:=by intro zq;(first|((with_reducible apply (RS.binFit (n:=((upS8 v.data+n:Nat):Int))));(iterate 4 exact rfl);exact congrArg some (show (upS8 v.data:Int)+(n:Nat)=((upS8 v.data+n:Nat):Int) by omega);omega)|fail);exact zq.1):p:=h ⟨hq⟩
theorem Y2m {p q:Prop} (hq:q) (h:Y0q q→p:=by intro zq;(first|((with_reducible apply (RS.appendNil (i:=k5)));(iterate 6 exact rfl);exact blt_iff.2 (Nat.lt_succ_self k5);exact ((look_cons _ _ _).trans (if_pos rfl));exact Nat.le_of_ble_eq_true rfl;exact Nat.lt_succ_self 0;exact Nat.le_of_ble_eq_true rfl;exact Nat.le_of_ble_eq_true rfl)|fail);exact zq.1):p:=h ⟨hq⟩
theorem Y2n {p q:Prop} (hq:q) (h:Y0q q→p:=by intro zq;(first|((with_reducible apply (RS.callA (g0:=31)));(iterate 3 exact rfl);exact fun B' hB'=>tok_tf hL (p.abs sp hB'))|fail);exact zq.1):p:=h ⟨hq⟩
theorem Y2o {p q:Prop} (hq:q) (h:Y0q q→p:=by intro zq;(first|((with_reducible first|apply RS.move|apply RS.assign|apply RS.not|apply RS.fieldAddr);(iterate 3 exact rfl))|fail);exact zq.1):p:=h ⟨hq⟩
theorem Y2p {p q:Prop} (hq:q) (h:Y0q q→p:=by intro zq;(first|((with_reducible apply RS.load1B);(iterate 3 exact rfl);first|exact hxm;exact w.d _ _ hxm;exact rfl|exact hkm;exact w.d _ _ hkm;exact rfl|exact hma;exact w.d _ _ hma;exact rfl)|fail);exact zq.1):p:=h ⟨hq⟩
theorem Y2q {p q:Prop} (hq:q) (h:Y0q q→p:=by intro zq;(first|((with_reducible apply RS.storeB);(iterate 3 exact rfl);exact ((if_neg hfl).trans w.c.f);exact hfb;exact hfn;exact Nat.le_of_ble_eq_true rfl;(iterate 2 exact rfl);exact hfc _)|fail);exact zq.1):p:=h ⟨hq⟩
theorem Y2r {p q:Prop} (hq:q) (h:Y0q q→p:=by intro zq;(first|((with_reducible apply (RS.callA (g0:=31)));(iterate 3 exact rfl);exact fun B' hB'=>tok_tf hL (p.off ⟨hB'.le,hB'.old⟩ s0.dom))|fail);exact zq.1):p:=h ⟨hq⟩
theorem Y2s {p q:Prop} (hq:q) (h:Y0q q→p:=by intro zq;(first|((with_reducible apply RS.load1BX);(iterate 3 exact rfl);exact hma;exact s0.dom _ _ hma;exact rfl;(first|exact bnd_int _ _ _|exact bnd_bool _ _|exact bnd_string _ _))|fail);exact zq.1):p:=h ⟨hq⟩
theorem Y2t {p q:Prop} (hq:q) (h:Y0q q→p:=by intro zq;(first|((with_reducible apply (RS.callP (g0:=118)));(iterate 3 exact rfl);exact fun H=>intOf_tf _ _ H;exact Nm_free (intC_free _))|fail);exact zq.1):p:=h ⟨hq⟩
theorem Y2u {p q:Prop} (hq:q) (h:Y0q q→p:=by intro zq;(first|((with_reducible apply RS.field1);(iterate 4 exact rfl))|fail);exact zq.1):p:=h ⟨hq⟩
theorem Y2v {p q:Prop} (hq:q) (h:Y0q q→p:=by intro zq;(first|((with_reducible apply RS.binStr);(iterate 5 exact rfl))|fail);exact zq.1):p:=h ⟨hq⟩
theorem Y2w {p q:Prop} (hq:q) (h:Y0q q→p:=by intro zq;(first|((with_reducible apply (RS.callR (g0:=126) true [] none));(iterate 3 exact rfl);exact fun H hH=>conv_same_tf C (Sees.at hH hma (s0.dom _ _ hma)) h1;exact trivial)|fail);exact zq.1):p:=h ⟨hq⟩
theorem Y2x {p q:Prop} (hq:q) (h:Y0q q→p:=by intro zq;(first|((with_reducible apply (RS.callR (g0:=126) true [] none));(iterate 3 exact rfl);exact fun H hH=>conv_same_tf C (Sees.at hH hmb (s0.dom _ _ hmb)) h2;exact trivial)|fail);exact zq.1):p:=h ⟨hq⟩
theorem Y2y {p q:Prop} (hq:q) (h:Y0q q→p:=by intro zq;(first|((with_reducible apply RS.load1B);(iterate 3 exact rfl);exact hkm;exact w.d _ _ hkm;exact rfl)|fail);exact zq.1):p:=h ⟨hq⟩
theorem Y2z {p q:Prop} (hq:q) (h:Y0q q→p:=by intro zq;(first|((with_reducible apply roundR_n))|fail);exact zq.1):p:=h ⟨hq⟩
theorem Y30 {p q:Prop} (hq:q) (h:Y0q q→p:=by intro zq;(first|((with_reducible apply RS.storeB);(iterate 3 exact rfl);exact w.c.f;exact hfb;exact hfn;exact Nat.le_of_ble_eq_true rfl;(iterate 2 exact rfl);exact hfc _)|fail);exact zq.1):p:=h ⟨hq⟩
theorem Y31 {p q:Prop} (hq:q) (h:Y0q q→p:=by intro zq;(first|((with_reducible apply RS.moveX);(iterate 3 exact rfl);(first|exact hC|exact hv1|exact hv2))|fail);exact zq.1):p:=h ⟨hq⟩
theorem Y32 {p q:Prop} (hq:q) (h:Y0q q→p:=by intro zq;(first|((with_reducible apply (RS.callA (g0:=171)));(iterate 3 exact rfl);exact fun B' hB'=>hlv B')|fail);exact zq.1):p:=h ⟨hq⟩
theorem Y33 {p q:Prop} (hq:q) (h:Y0q q→p:=by intro zq;(first|((with_reducible first|apply RS.move|apply RS.lenSl|apply RS.fieldAddr);(iterate 3 exact rfl))|fail);exact zq.1):p:=h ⟨hq⟩
theorem Y34 {p q:Prop} (hq:q) (h:Y0q q→p:=by intro zq;(first|((with_reducible apply (RS.sliceW (n:=0) (r:=uf) (cs:=fs.flatten)));(iterate 2 exact rfl);exact hfw;(iterate 2 exact rfl);exact UB.f hf0;exact sB.dom _ _ (UB.f hf0);exact UB.fw hf0;exact (by rw [Nat.zero_mul];exact Nat.zero_le _))|fail);exact zq.1):p:=h ⟨hq⟩
theorem Y35 {p q:Prop} (hq:q) (h:Y0q q→p:=by intro zq;(first|((with_reducible apply RS.appendGrow);(iterate 8 exact rfl);exact toksC_length _;(iterate 2 exact rfl);exact Nat.le_of_ble_eq_true rfl;exact rfl;(simp only [List.length_cons] at *;omega);(simp only [List.length_cons] at *;omega))|fail);exact zq.1):p:=h ⟨hq⟩
theorem Y36 {p q:Prop} (hq:q) (h:Y0q q→p:=by intro zq;(first|((with_reducible first|apply W.seq|apply W.exit|apply thenK_n|apply thenK_e|apply roundN_e))|fail);exact zq.1):p:=h ⟨hq⟩
theorem Y37 {p q:Prop} (hq:q) (h:Y0q q→p:=by intro zq;(first|((with_reducible apply (RS.buildSliceX (cs:=[ptrC p1])));(iterate 8 exact rfl);exact (fun u hu=>by rw [List.mem_singleton] at hu;rw [hu];exact hv1))|fail);exact zq.1):p:=h ⟨hq⟩
theorem Y38 {p q:Prop} (hq:q) (h:Y0q q→p:=by intro zq;(first|((with_reducible apply (RS.loadNB (vs:=declC dc D dd)));(iterate 3 exact rfl);exact hsm;exact w.d _ _ hsm;exact Nat.le_of_ble_eq_true rfl;exact rfl)|fail);exact zq.1):p:=h ⟨hq⟩
theorem Y39 {p q:Prop} (hq:q) (h:Y0q q→p:=by intro zq;(first|((with_reducible apply RS.load1B);(iterate 3 exact rfl);first|exact w.c;exact s0.dom _ _ w.c;exact rfl|exact hU.m;exact s0.dom _ _ hU.m;exact rfl)|fail);exact zq.1):p:=h ⟨hq⟩
theorem Y3a {p q:Prop} (hq:q) (h:Y0q q→p:=by intro zq;(first|((with_reducible first|apply RS.move|apply RS.assign|apply RS.box);(iterate 3 exact rfl))|fail);exact zq.1):p:=h ⟨hq⟩
theorem Y3b {p q:Prop} (hq:q) (h:Y0q q→p:=by intro zq;(first|((with_reducible apply RS.load1B);(iterate 3 exact rfl);first|exact w.c;exact s0.dom _ _ w.c;exact rfl|exact w.p;exact s0.dom _ _ w.p;exact rfl)|fail);exact zq.1):p:=h ⟨hq⟩
theorem Y3c {p q:Prop} (hq:q) (h:Y0q q→p:=by intro zq;(first|((with_reducible first|apply RS.move|apply RS.assign|apply RS.lenSl|apply RS.fieldAddr);(iterate 3 exact rfl))|fail);exact zq.1):p:=h ⟨hq⟩
theorem Y3d {p q:Prop} (hq:q) (h:Y0q q→p:=by intro zq;(first|((with_reducible apply (RS.callA (g0:=30)));(iterate 3 exact rfl);exact fun B' hB'=>ok_tf (p.off ⟨hB'.le,hB'.old⟩ s0.dom) (decide_eq_false hf))|fail);exact zq.1):p:=h ⟨hq⟩
theorem Y3e {p q:Prop} (hq:q) (h:Y0q q→p:=by intro zq;(first|((with_reducible apply RS.load1B);(iterate 3 exact rfl);first|exact c2.w.c;exact d2 _ _ c2.w.c;exact rfl|exact h42;exact d2 _ _ h42;exact rfl)|fail);exact zq.1):p:=h ⟨hq⟩
theorem Y3f {p q:Prop} (hq:q) (h:Y0q q→p:=by intro zq;(first|((with_reducible apply RS.load1B);(iterate 3 exact rfl);first|exact h4;exact w.d _ _ h4;exact rfl|exact w.c.f;exact w.d _ _ w.c.f;exact rfl)|fail);exact zq.1):p:=h ⟨hq⟩
theorem Y3g {p q:Prop} (hq:q) (h:Y0q q→p:=by intro zq;(first|((with_reducible apply RS.load1B);(iterate 3 exact rfl);exact hm;exact hn;exact hsp)|fail);exact zq.1):p:=h ⟨hq⟩
theorem Y3h {p q:Prop} (hq:q) (h:Y0q q→p:=by intro zq;(first|((with_reducible apply (RS.loadNB (vs:=tyC t tb)));(iterate 3 exact rfl);exact h6;exact w.d _ _ h6;exact (tyC_le t tb);exact (tyC_tk t tb))|fail);exact zq.1):p:=h ⟨hq⟩
theorem Y3i {p q:Prop} (hq:q) (h:Y0q q→p:=by intro zq;(first|((with_reducible apply RS.loadNB);(iterate 3 exact rfl);first|exact hma;exact s0.dom _ _ hma;exact Nat.le_of_ble_eq_true rfl;exact rfl|exact hmb;exact s0.dom _ _ hmb;exact Nat.le_of_ble_eq_true rfl;exact rfl)|fail);exact zq.1):p:=h ⟨hq⟩
theorem Y3j {p q:Prop} (hq:q) (h:Y0q q→p:=by intro zq;(first|((with_reducible first|apply W.seq|apply W.ret|apply thenK_n|apply thenK_r|apply blockK_r|apply roundK_r))|fail);exact zq.1):p:=h ⟨hq⟩
theorem Y3k {p q:Prop} (hq:q) (h:Y0q q→p:=by intro zq;(first|((with_reducible apply RS.load1B);(iterate 3 exact rfl);exact w.c.w.c;exact w.d _ _ w.c.w.c;exact rfl)|fail);exact zq.1):p:=h ⟨hq⟩
theorem Y3l {p q:Prop} (hq:q) (h:Y0q q→p:=by intro zq;(first|((with_reducible apply RS.load1B);(iterate 3 exact rfl);exact w.w.s;exact w.w.q.d _ _ w.w.s;exact rfl)|fail);exact zq.1):p:=h ⟨hq⟩
theorem Y3m {p q:Prop} (hq:q) (h:Y0q q→p:=by intro zq;(first|((with_reducible apply (RS.callA (g0:=118)));(iterate 3 exact rfl);exact fun B' hB'=>intOf_tf _ _ B')|fail);exact zq.1):p:=h ⟨hq⟩
theorem Y3n {p q:Prop} (hq:q) (h:Y0q q→p:=by intro zq;(first|((with_reducible apply (RS.callA (g0:=30)));(iterate 3 exact rfl);exact fun B' hB'=>ok_tf (w.q.p.absd w.q.d hB') (decide_eq_true hf5))|fail);exact zq.1):p:=h ⟨hq⟩
theorem Y3o {p q:Prop} (hq:q) (h:Y0q q→p:=by intro zq;(first|((with_reducible apply RS.fieldAddrX);(iterate 3 exact rfl);(first|exact hpl))|fail);exact zq.1):p:=h ⟨hq⟩
theorem Y3p {p q:Prop} (hq:q) (h:Y0q q→p:=by intro zq;(first|((with_reducible apply (RS.callA (g0:=30)));(iterate 3 exact rfl);exact fun B' hB'=>ok_tf (q.p.absd q.d hB') (decide_eq_true hf2))|fail);exact zq.1):p:=h ⟨hq⟩
theorem Y3q {p q:Prop} (hq:q) (h:Y0q q→p:=by intro zq;(first|((with_reducible apply RS.load1B);(iterate 3 exact rfl);exact w.c;exact s0.dom _ _ w.c;exact rfl)|fail);exact zq.1):p:=h ⟨hq⟩
theorem Y3r {p q:Prop} (hq:q) (h:Y0q q→p:=by intro zq;(first|((with_reducible apply RS.loadNB);(iterate 3 exact rfl);exact hma;exact s0.dom _ _ hma;exact Nat.le_of_ble_eq_true rfl;exact rfl)|fail);exact zq.1):p:=h ⟨hq⟩
theorem Y3s {p q:Prop} (hq:q) (h:Y0q q→p:=by intro zq;(first|((with_reducible apply RS.nilCheckX);(iterate 3 exact rfl);(first|exact hpl))|fail);exact zq.1):p:=h ⟨hq⟩
theorem Y3t {p q:Prop} (hq:q) (h:Y0q q→p:=by intro zq;(first|((with_reducible apply RS.load1B);(iterate 3 exact rfl);exact wB.c;exact hdB _ _ wB.c;exact rfl)|fail);exact zq.1):p:=h ⟨hq⟩
theorem Y3u {p q:Prop} (hq:q) (h:Y0q q→p:=by intro zq;(first|((with_reducible apply (RS.storeB (cs':=funcDC d A ps.length c (ptrC b5))));(iterate 3 exact rfl);exact w.r;exact w.w.q.d _ _ w.r;exact hrw;exact Nat.le_of_ble_eq_true rfl;(iterate 3 exact rfl))|fail);exact zq.1):p:=h ⟨hq⟩
theorem Y3v {p q:Prop} (hq:q) (h:Y0q q→p:=by intro zq;(first|((with_reducible first|apply W.seq|apply W.skip|apply thenK_n|apply blockK_n))|fail);exact zq.1):p:=h ⟨hq⟩
theorem Y3w {p q:Prop} (hq:q) (h:Y0q q→p:=by intro zq;(first|((with_reducible apply RS.nePtrN);(iterate 4 exact rfl))|fail);exact zq.1):p:=h ⟨hq⟩
theorem Y3x {p q:Prop} (hq:q) (h:Y0q q→p:=by intro zq;(first|((with_reducible apply RS.load1X);(iterate 3 exact rfl);exact q.o.keep hT tn tne;exact q.d _ _ (q.o.keep hT tn tne);exact rfl)|fail);exact zq.1):p:=h ⟨hq⟩
theorem Y3y {p q:Prop} (hq:q) (h:Y0q q→p:=by intro zq;(first|((with_reducible apply (RS.callA (g0:=60)));(iterate 3 exact rfl);exact fun B' hB'=>is_tf hL (w.w.q.p.absd w.w.q.d hB') _ his)|fail);exact zq.1):p:=h ⟨hq⟩
theorem Y3z {p q:Prop} (hq:q) (h:Y0q q→p:=by intro zq;(first|((with_reducible apply RS.load1X);(iterate 3 exact rfl);exact hum;exact w.d _ _ hum;exact rfl)|fail);exact zq.1):p:=h ⟨hq⟩
theorem Y40 {p q:Prop} (hq:q) (h:Y0q q→p:=by intro zq;(first|((with_reducible apply RS.appendNil);(iterate 8 exact rfl);exact Nat.le_of_ble_eq_true rfl;exact Nat.le_of_ble_eq_true rfl;exact Nat.le_of_ble_eq_true rfl;exact Nat.le_of_ble_eq_true rfl)|fail);exact zq.1):p:=h ⟨hq⟩
theorem Y41 {p q:Prop} (hq:q) (h:Y0q q→p:=by intro zq;(first|((with_reducible first|apply W.seq|apply W.block|apply thenK_n))|fail);exact zq.1):p:=h ⟨hq⟩
theorem Y42 {p q:Prop} (hq:q) (h:Y0q q→p:=by intro zq;(first|((with_reducible apply blockK_miss);exact rfl)|fail);exact zq.1):p:=h ⟨hq⟩
theorem Y43 {p q:Prop} (hq:q) (h:Y0q q→p:=by intro zq;(first|((with_reducible apply (RS.callA (g0:=58)));(iterate 3 exact rfl);exact fun B' hB'=>typed_tf hL (w.q.p.absd w.q.d hB') ht)|fail);exact zq.1):p:=h ⟨hq⟩
theorem Y44 {p q:Prop} (hq:q) (h:Y0q q→p:=by intro zq;(first|((with_reducible apply (RS.loadNB (vs:=declC ⟨⟨s',k',dims⟩,nm,dp⟩ D dk++[.pointer none])));(iterate 3 exact rfl);exact hgb;exact w.d _ _ hgb;exact Nat.le_of_ble_eq_true rfl;exact rfl)|fail);exact zq.1):p:=h ⟨hq⟩
theorem Y45 {p q:Prop} (hq:q) (h:Y0q q→p:=by intro zq;(first|((with_reducible first|apply RS.move|apply RS.assign|apply RS.lenSl|apply RS.not|apply RS.fieldAddr);(iterate 3 exact rfl))|fail);exact zq.1):p:=h ⟨hq⟩
theorem Y46 {p q:Prop} (hq:q) (h:Y0q q→p:=by intro zq;(first|((with_reducible apply (RS.callA (g0:=154)));(iterate 3 exact rfl);exact fun B' hB'=>place_tf (he1.up (Absb.kx hB')) hp)|fail);exact zq.1):p:=h ⟨hq⟩
theorem Y47 {p q:Prop} (hq:q) (h:Y0q q→p:=by intro zq;(first|((with_reducible apply RS.storeB);(iterate 3 exact rfl);exact ((if_neg hcb).trans c2.w.c);exact hcn2;exact hcw2;exact Nat.le_of_ble_eq_true rfl;(iterate 2 exact rfl);exact hfc _)|fail);exact zq.1):p:=h ⟨hq⟩
theorem Y48 {p q:Prop} (hq:q) (h:Y0q q→p:=by intro zq;(first|((with_reducible first|apply W.seq|apply W.block|apply W.ret|apply thenK_n|apply blockK_n))|fail);exact zq.1):p:=h ⟨hq⟩
theorem Y49 {p q:Prop} (hq:q) (h:Y0q q→p:=by intro zq;(first|((with_reducible apply (RS.indexAddrS (n:=i)));(iterate 2 exact rfl);exact congrArg (fun a=>some (Value.slice a st.gl.length (rK1 15 st.gl))) hga;(iterate 2 exact rfl);exact hi)|fail);exact zq.1):p:=h ⟨hq⟩
theorem Y4a {p q:Prop} (hq:q) (h:Y0q q→p:=by intro zq;(first|((with_reducible apply (RS.callA (g0:=60)));(iterate 3 exact rfl);exact fun B' hB'=>is_tf hL (w.p.absd w.d hB') _ his)|fail);exact zq.1):p:=h ⟨hq⟩
theorem Y4b {p q:Prop} (hq:q) (h:Y0q q→p:=by intro zq;(first|((with_reducible apply (RS.loadNB (vs:=funcDC d A ps.length c (ptrC b5))));(iterate 3 exact rfl);exact w.w.s;exact w.w.q.d _ _ w.w.s;exact Nat.le_of_ble_eq_true rfl;exact rfl)|fail);exact zq.1):p:=h ⟨hq⟩
theorem Y4c {p q:Prop} (hq:q) (h:Y0q q→p:=by intro zq;(first|((with_reducible first|apply W.seq|apply W.exit|apply W.ret|apply W.skip|apply thenK_n|apply thenK_e|apply roundN_e))|fail);exact zq.1):p:=h ⟨hq⟩
theorem Y4d {p q:Prop} (hq:q) (h:Y0q q→p:=by intro zq;(first|((with_reducible apply (RS.load1B (v:=ptrC sp)));(iterate 3 exact rfl);exact hkm;exact sB.dom _ _ hkm;exact hpv)|fail);exact zq.1):p:=h ⟨hq⟩
theorem Y4e {p q:Prop} (hq:q) (h:Y0q q→p:=by intro zq;(first|((with_reducible apply (W.rounds 2)))|fail);exact zq.1):p:=h ⟨hq⟩
theorem Y4f {p q:Prop} (hq:q) (h:Y0q q→p:=by intro zq;(first|((with_reducible apply (RS.loadNB (vs:=declC ⟨⟨s',k',[]⟩,nm,dp⟩ none 0)));(iterate 3 exact rfl);exact hdb;exact w.d _ _ hdb;exact Nat.le_of_ble_eq_true rfl;exact rfl)|fail);exact zq.1):p:=h ⟨hq⟩
theorem Y4g {p q:Prop} (hq:q) (h:Y0q q→p:=by intro zq;(first|((with_reducible apply RS.callP);(iterate 3 exact rfl);first|exact fun H=>(digit_tf _ H);exact Nm_free (by simp)|exact fun H=>(letter_tf _ H);exact Nm_free (by simp))|fail);exact zq.1):p:=h ⟨hq⟩
theorem Y4h {p q:Prop} (hq:q) (h:Y0q q→p:=by intro zq;(first|((with_reducible apply RS.load1BX);(iterate 3 exact rfl);exact hxm;exact w.d _ _ hxm;exact rfl;(first|exact bnd_int _ _ _|exact bnd_bool _ _|exact bnd_string _ _))|fail);exact zq.1):p:=h ⟨hq⟩
theorem Y4i {p q:Prop} (hq:q) (h:Y0q q→p:=by intro zq;(first|((with_reducible apply RS.indexChr);(iterate 5 exact rfl);omega)|fail);exact zq.1):p:=h ⟨hq⟩
theorem Y4j {p q:Prop} (hq:q) (h:Y0q q→p:=by intro zq;(first|((with_reducible first|apply RS.move|apply RS.assign|apply RS.fieldAddr|apply RS.box);(iterate 3 exact rfl))|fail);exact zq.1):p:=h ⟨hq⟩
theorem Y4k {p q:Prop} (hq:q) (h:Y0q q→p:=by intro zq;(first|((with_reducible apply (RS.callR (g0:=31) true [] (some [])));(iterate 3 exact rfl);exact fun H hH=>tok_tf hL (q.p.sees q.d hH);exact Nm_free (by simp [tokC]))|fail);exact zq.1):p:=h ⟨hq⟩
theorem Y4l {p q:Prop} (hq:q) (h:Y0q q→p:=by intro zq;(first|((with_reducible first|apply RS.move|apply RS.lenSl|apply RS.not|apply RS.fieldAddr);(iterate 3 exact rfl))|fail);exact zq.1):p:=h ⟨hq⟩
theorem Y4m {p q:Prop} (hq:q) (h:Y0q q→p:=by intro zq;(first|((with_reducible apply RS.indexSg);(iterate 4 exact rfl);omega)|fail);exact zq.1):p:=h ⟨hq⟩
theorem Y4n {p q:Prop} (hq:q) (h:Y0q q→p:=by intro zq;(first|((with_reducible apply (RS.sliceW (r:=nb) (cs:=ncs)));(iterate 2 exact rfl);exact hsw;(iterate 2 exact rfl);exact hnm;exact hdB _ _ hnm;exact hnw;exact hn3)|fail);exact zq.1):p:=h ⟨hq⟩
theorem Y4o {p q:Prop} (hq:q) (h:Y0q q→p:=by intro zq;(first|((with_reducible apply (RS.indexAddrS (n:=i)));(iterate 5 exact rfl);exact hi)|fail);exact zq.1):p:=h ⟨hq⟩
theorem Y4p {p q:Prop} (hq:q) (h:Y0q q→p:=by intro zq;(first|((with_reducible first|apply W.seq|apply W.block|apply W.exit|apply W.skip|apply thenK_n|apply thenK_e))|fail);exact zq.1):p:=h ⟨hq⟩
theorem Y4q {p q:Prop} (hq:q) (h:Y0q q→p:=by intro zq;(first|((with_reducible apply RS.bin);(iterate 5 exact rfl))|fail);exact zq.1):p:=h ⟨hq⟩
theorem Y4r {p q:Prop} (hq:q) (h:Y0q q→p:=by intro zq;(first|((with_reducible apply RS.load1X);(iterate 3 exact rfl);exact w.c.w.c;exact w.d _ _ w.c.w.c;exact rfl)|fail);exact zq.1):p:=h ⟨hq⟩
theorem Y4s {p q:Prop} (hq:q) (h:Y0q q→p:=by intro zq;(first|((with_reducible first|apply W.seq|apply W.block|apply W.exit|apply W.ret|apply thenK_n|apply thenK_e))|fail);exact zq.1):p:=h ⟨hq⟩
theorem Y4t {p q:Prop} (hq:q) (h:Y0q q→p:=by intro zq;(first|((with_reducible apply (RS.loadNB (vs:=typeC dc.ty D dd)));(iterate 3 exact rfl);exact hsm;exact w.d _ _ hsm;exact Nat.le_of_ble_eq_true rfl;exact rfl)|fail);exact zq.1):p:=h ⟨hq⟩
theorem Y4u {p q:Prop} (hq:q) (h:Y0q q→p:=by intro zq;(first|((with_reducible apply RS.load1B);(iterate 3 exact rfl);first|exact w.c.w.c;exact w.d _ _ w.c.w.c;exact rfl|exact w.c.f;exact w.d _ _ w.c.f;exact rfl)|fail);exact zq.1):p:=h ⟨hq⟩
theorem Y4v {p q:Prop} (hq:q) (h:Y0q q→p:=by intro zq;(first|((with_reducible apply RS.load1B);(iterate 3 exact rfl);first|exact w5.c;exact sp5.dom _ _ w5.c;exact rfl|exact w5.p;exact sp5.dom _ _ w5.p;exact rfl)|fail);exact zq.1):p:=h ⟨hq⟩
theorem Y4w {p q:Prop} (hq:q) (h:Y0q q→p:=by intro zq;(first|((with_reducible apply RS.load1B);(iterate 3 exact rfl);first|exact w.c.w.c;exact w.d _ _ w.c.w.c;exact rfl|exact hxm;exact w.d _ _ hxm;exact rfl)|fail);exact zq.1):p:=h ⟨hq⟩
theorem Y4x {p q:Prop} (hq:q) (h:Y0q q→p:=by intro zq;(first|((with_reducible apply (RS.loadNB (vs:=declC d A k++[.pointer none])));(iterate 3 exact rfl);exact hgB;exact sB.dom _ _ hgB;exact hln;exact htk)|fail);exact zq.1):p:=h ⟨hq⟩
theorem Y4y {p q:Prop} (hq:q) (h:Y0q q→p:=by intro zq;(first|((with_reducible apply (RS.callA (g0:=30)));(iterate 3 exact rfl);exact fun B' hB'=>ok_tf (q.p.absd q.d hB') (decide_eq_true (by assumption)))|fail);exact zq.1):p:=h ⟨hq⟩
theorem Y4z {p q:Prop} (hq:q) (h:Y0q q→p:=by intro zq;(first|((with_reducible apply RS.load1B);(iterate 3 exact rfl);exact hma;exact w.d _ _ hma;exact rfl)|fail);exact zq.1):p:=h ⟨hq⟩
theorem Y50 {p q:Prop} (hq:q) (h:Y0q q→p:=by intro zq;(first|((with_reducible apply (RS.binFit (n:=(k:Int))));(iterate 4 exact rfl);exact congrArg some (show ((k+1:Nat):Int) - 1=(k:Int) by omega);omega)|fail);exact zq.1):p:=h ⟨hq⟩
theorem Y51 {p q:Prop} (hq:q) (h:Y0q q→p:=by intro zq;(first|((with_reducible apply RS.load1B);(iterate 3 exact rfl);exact hdb;exact w.d _ _ hdb;exact rfl)|fail);exact zq.1):p:=h ⟨hq⟩
theorem Y52 {p q:Prop} (hq:q) (h:Y0q q→p:=by intro zq;(first|((with_reducible apply RS.load1B);(iterate 3 exact rfl);exact h3m;exact hd4 _ _ h3m;exact rfl)|fail);exact zq.1):p:=h ⟨hq⟩
theorem Y53 {p q:Prop} (hq:q) (h:Y0q q→p:=by intro zq;(first|((with_reducible apply (RS.loadNB (vs:=tyC t tb)));(iterate 3 exact rfl);exact h6m;exact hd4 _ _ h6m;exact (tyC_le t tb);exact (tyC_tk t tb))|fail);exact zq.1):p:=h ⟨hq⟩
theorem Y54 {p q:Prop} (hq:q) (h:Y0q q→p:=by intro zq;(first|((with_reducible apply RS.eqPtrNil);(iterate 4 exact rfl))|fail);exact zq.1):p:=h ⟨hq⟩
theorem Y55 {p q:Prop} (hq:q) (h:Y0q q→p:=by intro zq;(first|((with_reducible apply (RS.loadNB (vs:=tyC t tb)));(iterate 3 exact rfl);exact h5;exact w.d _ _ h5;exact (tyC_le t tb);exact (tyC_tk t tb))|fail);exact zq.1):p:=h ⟨hq⟩
theorem Y56 {p q:Prop} (hq:q) (h:Y0q q→p:=by intro zq;(first|((with_reducible apply RS.load1B);(iterate 3 exact rfl);first|exact hma;exact w.d _ _ hma;exact rfl|exact hmb;exact w.d _ _ hmb;exact rfl)|fail);exact zq.1):p:=h ⟨hq⟩
theorem Y57 {p q:Prop} (hq:q) (h:Y0q q→p:=by intro zq;(first|((with_reducible apply (RS.callA (g0:=37)));(iterate 3 exact rfl);exact fun B' hB'=>sized_tf (w.abs hB').c.w hn (TyE.up (w.abs hB').k ht))|fail);exact zq.1):p:=h ⟨hq⟩
theorem Y58 {p q:Prop} (hq:q) (h:Y0q q→p:=by intro zq;(first|((with_reducible apply RS.load1B);(iterate 3 exact rfl);first|exact hdb;exact w.d _ _ hdb;exact rfl|exact hum;exact w.d _ _ hum;exact rfl)|fail);exact zq.1):p:=h ⟨hq⟩
theorem Y59 {p q:Prop} (hq:q) (h:Y0q q→p:=by intro zq;(first|((with_reducible apply RS.load1B);(iterate 3 exact rfl);first|exact w.c;exact hd4 _ _ w.c;exact rfl|exact w.p;exact hd4 _ _ w.p;exact rfl)|fail);exact zq.1):p:=h ⟨hq⟩
theorem Y5a {p q:Prop} (hq:q) (h:Y0q q→p:=by intro zq;(first|((with_reducible apply (RS.callA (g0:=30)));(iterate 3 exact rfl);exact fun B' hB'=>ok_tf (w.w.q.p.absd w.w.q.d hB') (decide_eq_true hf))|fail);exact zq.1):p:=h ⟨hq⟩
theorem Y5b {p q:Prop} (hq:q) (h:Y0q q→p:=by intro zq;(first|((with_reducible apply (RS.callA (g0:=66)));(iterate 3 exact rfl);exact fun B' hB'=>takeN_tf hL (q.p.absd q.d hB') _ (by assumption))|fail);exact zq.1):p:=h ⟨hq⟩
theorem Y5c {p q:Prop} (hq:q) (h:Y0q q→p:=by intro zq;(first|((with_reducible apply (RS.callA (g0:=60)));(iterate 3 exact rfl);exact fun B' hB'=>is_tf hL (p.off ⟨hB'.le,hB'.old⟩ s0.dom) s his)|fail);exact zq.1):p:=h ⟨hq⟩
theorem Y5d {p q:Prop} (hq:q) (h:Y0q q→p:=by intro zq;(first|((with_reducible first|apply W.seq|apply W.block|apply W.ret|apply W.skip|apply thenK_n|apply thenK_r|apply blockK_r|apply roundN_r))|fail);exact zq.1):p:=h ⟨hq⟩
theorem Y5e {p q:Prop} (hq:q) (h:Y0q q→p:=by intro zq;(first|((with_reducible apply (RS.callA (g0:=60)));(iterate 3 exact rfl);exact fun B' hB'=>is_tf hL (q.p.absd q.d hB') _ (by assumption))|fail);exact zq.1):p:=h ⟨hq⟩
theorem Y5f {p q:Prop} (hq:q) (h:Y0q q→p:=by intro zq;(first|((with_reducible apply (RS.callA (g0:=30)));(iterate 3 exact rfl);exact fun B' hB'=>ok_tf (q.p.absd q.d hB') (decide_eq_false hf))|fail);exact zq.1):p:=h ⟨hq⟩
theorem Y5g {p q:Prop} (hq:q) (h:Y0q q→p:=by intro zq;(first|((with_reducible apply (W.rounds 1)))|fail);exact zq.1):p:=h ⟨hq⟩
theorem Y5h {p q:Prop} (hq:q) (h:Y0q q→p:=by intro zq;(first|((with_reducible apply (W.rounds 5)))|fail);exact zq.1):p:=h ⟨hq⟩
theorem Y5i {p q:Prop} (hq:q) (h:Y0q q→p:=by intro zq;(first|((with_reducible apply RS.loadNB);(iterate 3 exact rfl);exact hel;exact s0.dom _ _ hel;exact Nat.le_of_ble_eq_true rfl;exact rfl)|fail);exact zq.1):p:=h ⟨hq⟩
theorem Y5j {p q:Prop} (hq:q) (h:Y0q q→p:=by intro zq;(first|((with_reducible apply (RS.callA (g0:=30)));(iterate 3 exact rfl);exact fun B' hB'=>ok_tf (w.p.absd w.d hB') (decide_eq_true hf))|fail);exact zq.1):p:=h ⟨hq⟩
theorem Y5k {p q:Prop} (hq:q) (h:Y0q q→p:=by intro zq;(first|((with_reducible apply RS.loadNB);(iterate 3 exact rfl);exact hm;exact s0.dom _ _ hm;exact Nat.le_of_ble_eq_true rfl;exact rfl)|fail);exact zq.1):p:=h ⟨hq⟩
theorem Y5l {p q:Prop} (hq:q) (h:Y0q q→p:=by intro zq;(first|((with_reducible apply RS.loadNB);(iterate 3 exact rfl);exact h6k;exact hd12 _ _ h6k;exact Nat.le_of_ble_eq_true rfl;exact rfl)|fail);exact zq.1):p:=h ⟨hq⟩
theorem Y5m {p q:Prop} (hq:q) (h:Y0q q→p:=by intro zq;(first|((with_reducible apply RS.loadNB);(iterate 3 exact rfl);exact hmp;exact w.d _ _ hmp;exact Nat.le_of_ble_eq_true rfl;exact rfl)|fail);exact zq.1):p:=h ⟨hq⟩
theorem Y5n {p q:Prop} (hq:q) (h:Y0q q→p:=by intro zq;(first|((with_reducible apply (RS.callA (g0:=58)));(iterate 3 exact rfl);exact fun B' hB'=>typed_tf hL (w.w.q.p.absd w.w.q.d hB') ht)|fail);exact zq.1):p:=h ⟨hq⟩
theorem Y5o {p q:Prop} (hq:q) (h:Y0q q→p:=by intro zq;(first|((with_reducible apply (RS.indexAddrS (n:=0)));(iterate 2 exact rfl);exact hsw;(iterate 2 exact rfl);exact Nat.lt_succ_self 0)|fail);exact zq.1):p:=h ⟨hq⟩
theorem Y5p {p q:Prop} (hq:q) (h:Y0q q→p:=by intro zq;(first|((with_reducible apply (RS.callA (g0:=30)));(iterate 3 exact rfl);exact fun B' hB'=>ok_tf (p.abs sp hB') (decide_eq_true hf))|fail);exact zq.1):p:=h ⟨hq⟩
theorem Y5q {p q:Prop} (hq:q) (h:Y0q q→p:=by intro zq;(first|((with_reducible apply (RS.callP (g0:=200)));(iterate 3 exact rfl);exact fun H=>common_tf _ _ H;exact Nm_free (intC_free _))|fail);exact zq.1):p:=h ⟨hq⟩
theorem Y5r {p q:Prop} (hq:q) (h:Y0q q→p:=by intro zq;(first|((with_reducible apply (RS.callA (g0:=66)));(iterate 3 exact rfl);exact fun B' hB'=>takeN_tf hL (w.q.p.absd w.q.d hB') _ i6)|fail);exact zq.1):p:=h ⟨hq⟩
theorem Y5s {p q:Prop} (hq:q) (h:Y0q q→p:=by intro zq;(first|((with_reducible apply RS.moveX);(iterate 3 exact rfl);(first|exact hC|exact hv1))|fail);exact zq.1):p:=h ⟨hq⟩
theorem Y5t {p q:Prop} (hq:q) (h:Y0q q→p:=by intro zq;(first|((with_reducible apply (RS.callP (g0:=44)));(iterate 3 exact rfl);exact fun H=>size_int_tf _ _ H;exact Nm_free (by simp))|fail);exact zq.1):p:=h ⟨hq⟩
theorem Y5u {p q:Prop} (hq:q) (h:Y0q q→p:=by intro zq;(first|((with_reducible first|apply RS.move|apply RS.assign|apply RS.lenSl|apply RS.fieldAddr|apply RS.box);(iterate 3 exact rfl))|fail);exact zq.1):p:=h ⟨hq⟩
theorem Y5v {p q:Prop} (hq:q) (h:Y0q q→p:=by intro zq;(first|((with_reducible apply (RS.callA (g0:=58)));(iterate 3 exact rfl);exact fun B' hB'=>typed_tf hL (q.p.absd q.d hB') hty)|fail);exact zq.1):p:=h ⟨hq⟩
theorem Y5w {p q:Prop} (hq:q) (h:Y0q q→p:=by intro zq;(first|((with_reducible apply (RS.callA (g0:=60)));(iterate 3 exact rfl);exact fun B' hB'=>is_tf hL (q.p.absd q.d hB') _ his)|fail);exact zq.1):p:=h ⟨hq⟩
theorem Y5x {p q:Prop} (hq:q) (h:Y0q q→p:=by intro zq;(first|((with_reducible apply (RS.callA (g0:=58)));(iterate 3 exact rfl);exact fun B' hB'=>typed_tf hL (w.p.absd w.d hB') ht)|fail);exact zq.1):p:=h ⟨hq⟩
theorem Y5y {p q:Prop} (hq:q) (h:Y0q q→p:=by intro zq;(first|((with_reducible apply (RS.loadNB (vs:=_)));(iterate 3 exact rfl);exact hgm;exact w.d _ _ hgm;exact hlen3;exact htk3)|fail);exact zq.1):p:=h ⟨hq⟩
theorem Y5z {p q:Prop} (hq:q) (h:Y0q q→p:=by intro zq;(first|((with_reducible apply (RS.load1B (v:=.int .i64 x.2.2)));(iterate 3 exact rfl);exact hmb;exact hdB _ _ hmb;exact hc2)|fail);exact zq.1):p:=h ⟨hq⟩
theorem Y60 {p q:Prop} (hq:q) (h:Y0q q→p:=by intro zq;(first|((with_reducible first|apply W.seq|apply W.block|apply W.exit|apply W.skip|apply thenK_n|apply thenK_e|apply blockK_n))|fail);exact zq.1):p:=h ⟨hq⟩
theorem Y61 {p q:Prop} (hq:q) (h:Y0q q→p:=by intro zq;(first|((with_reducible first|apply W.seq|apply W.exit|apply W.ret|apply thenK_n|apply thenK_e|apply blockK_n|apply roundN_e))|fail);exact zq.1):p:=h ⟨hq⟩
theorem Y62 {p q:Prop} (hq:q) (h:Y0q q→p:=by intro zq;(first|((with_reducible first|apply W.seq|apply W.exit|apply W.ret|apply thenK_n|apply thenK_e|apply thenK_r|apply roundN_e))|fail);exact zq.1):p:=h ⟨hq⟩
theorem Y63 {p q:Prop} (hq:q) (h:Y0q q→p:=by intro zq;(first|((with_reducible first|apply W.seq|apply W.block|apply W.exit|apply W.ret|apply thenK_n|apply thenK_e|apply roundN_e))|fail);exact zq.1):p:=h ⟨hq⟩
theorem Y64 {p q:Prop} (hq:q) (h:Y0q q→p:=by intro zq;(first|((with_reducible apply roundR_r))|fail);exact zq.1):p:=h ⟨hq⟩
theorem Y65 {p q:Prop} (hq:q) (h:Y0q q→p:=by intro zq;(first|((with_reducible apply RS.fieldAddr);(iterate 3 exact rfl))|fail);exact zq.1):p:=h ⟨hq⟩
theorem Y66 {p q:Prop} (hq:q) (h:Y0q q→p:=by intro zq;(first|((with_reducible apply RS.callP);(iterate 3 exact rfl);exact fun H=>(hasPrefix_tf _ _ H);exact Nm_free (by simp))|fail);exact zq.1):p:=h ⟨hq⟩
theorem Y67 {p q:Prop} (hq:q) (h:Y0q q→p:=by intro zq;(first|((with_reducible apply (RS.callA (g0:=31)));(iterate 3 exact rfl);exact fun B' hB'=>tok_tf hL (w.p.absd w.d hB'))|fail);exact zq.1):p:=h ⟨hq⟩
theorem Y68 {p q:Prop} (hq:q) (h:Y0q q→p:=by intro zq;(first|((with_reducible first|apply W.seq|apply W.block|apply W.skip|apply thenK_n))|fail);exact zq.1):p:=h ⟨hq⟩
theorem Y69 {p q:Prop} (hq:q) (h:Y0q q→p:=by intro zq;(first|((with_reducible apply (RS.callP (g0:=122)));(iterate 3 exact rfl);exact fun H=>hsame H;exact Nm_free (by simp))|fail);exact zq.1):p:=h ⟨hq⟩
theorem Y6a {p q:Prop} (hq:q) (h:Y0q q→p:=by intro zq;(first|((with_reducible apply (RS.callA (g0:=38)));(iterate 3 exact rfl);exact fun B' hB'=>up8_tf v.data (by omega) B')|fail);exact zq.1):p:=h ⟨hq⟩
theorem Y6b {p q:Prop} (hq:q) (h:Y0q q→p:=by intro zq;(first|((with_reducible apply RS.load1BX);(iterate 3 exact rfl);exact h3k;exact hd12 _ _ h3k;exact rfl;exact (by simp))|fail);exact zq.1):p:=h ⟨hq⟩
theorem Y6c {p q:Prop} (hq:q) (h:Y0q q→p:=by intro zq;(first|((with_reducible apply (RS.indexAddrS (n:=i)));(iterate 2 exact rfl);exact hsw;(iterate 2 exact rfl);exact hi)|fail);exact zq.1):p:=h ⟨hq⟩
theorem Y6d {p q:Prop} (hq:q) (h:Y0q q→p:=by intro zq;(first|((with_reducible first|apply RS.move|apply RS.lenSl);(iterate 3 exact rfl))|fail);exact zq.1):p:=h ⟨hq⟩
theorem Y6e {p q:Prop} (hq:q) (h:Y0q q→p:=by intro zq;(first|((with_reducible apply (RS.callA (g0:=30)));(iterate 3 exact rfl);exact fun B' hB'=>ok_tf (p.abs sp hB') rfl)|fail);exact zq.1):p:=h ⟨hq⟩
theorem Y6f {p q:Prop} (hq:q) (h:Y0q q→p:=by intro zq;(first|((with_reducible apply RS.loadF);(iterate 5 exact rfl);exact Nat.le_of_ble_eq_true rfl;exact intC_free _)|fail);exact zq.1):p:=h ⟨hq⟩
theorem Y6g {p q:Prop} (hq:q) (h:Y0q q→p:=by intro zq;(first|((with_reducible first|apply W.seq|apply W.exit|apply thenK_n|apply thenK_e|apply blockK_n|apply roundN_e))|fail);exact zq.1):p:=h ⟨hq⟩
theorem Y6h {p q:Prop} (hq:q) (h:Y0q q→p:=by intro zq;(first|((with_reducible first|apply RS.move|apply RS.not|apply RS.fieldAddr|apply RS.box);(iterate 3 exact rfl))|fail);exact zq.1):p:=h ⟨hq⟩
theorem Y6i {p q:Prop} (hq:q) (h:Y0q q→p:=by intro zq;(first|((with_reducible apply RS.load1X);(iterate 3 exact rfl);exact w.w.s;exact w.w.q.d _ _ w.w.s;exact rfl)|fail);exact zq.1):p:=h ⟨hq⟩
theorem Y6j {p q:Prop} (hq:q) (h:Y0q q→p:=by intro zq;(first|((with_reducible first|apply W.seq|apply W.exit|apply W.ret|apply thenK_n|apply thenK_e|apply roundK_e))|fail);exact zq.1):p:=h ⟨hq⟩
theorem Y6k {p q:Prop} (hq:q) (h:Y0q q→p:=by intro zq;(first|((with_reducible apply (RS.callA (g0:=69)));(iterate 3 exact rfl);exact fun B' hB'=>spec_tf hl _ B')|fail);exact zq.1):p:=h ⟨hq⟩
theorem Y6l {p q:Prop} (hq:q) (h:Y0q q→p:=by intro zq;(first|((with_reducible first|apply RS.move|apply RS.assign|apply RS.not|apply RS.box);(iterate 3 exact rfl))|fail);exact zq.1):p:=h ⟨hq⟩
theorem Y6m {p q:Prop} (hq:q) (h:Y0q q→p:=by intro zq;(first|((with_reducible apply RS.indexAddrS);(iterate 5 exact rfl);omega)|fail);exact zq.1):p:=h ⟨hq⟩
theorem Y6n {p q:Prop} (hq:q) (h:Y0q q→p:=by intro zq;(first|((with_reducible apply RS.sliceNil);(iterate 2 exact rfl);exact hsn;exact rfl;exact ⟨_,_,rfl,rfl⟩)|fail);exact zq.1):p:=h ⟨hq⟩
theorem Y6o {p q:Prop} (hq:q) (h:Y0q q→p:=by intro zq;(first|((with_reducible first|apply W.block|apply W.skip|apply thenK_n))|fail);exact zq.1):p:=h ⟨hq⟩
theorem Y6p {p q:Prop} (hq:q) (h:Y0q q→p:=by intro zq;(first|((with_reducible apply (W.rounds 3)))|fail);exact zq.1):p:=h ⟨hq⟩
theorem mixed:Tryz.prog.follows .mixedOrders=true:=by kernel_rfl
instance:TyU Tryz.prog 2 (.int .i64):=⟨by kernel_rfl,by kernel_rfl⟩
instance:TyU Tryz.prog 3 (.int .i64):=⟨by kernel_rfl,by kernel_rfl⟩
instance:TyOne Tryz.prog 3:=⟨by kernel_rfl⟩
instance:TySz Tryz.prog 3 1:=⟨by kernel_rfl,by kernel_rfl⟩
instance:TyBy Tryz.prog 3 8:=⟨by kernel_rfl⟩
instance:TyZ Tryz.prog 3 (.int .i64 0):=⟨by kernel_rfl,by kernel_rfl,by kernel_rfl⟩
instance:TyU Tryz.prog 4 .bool:=⟨by kernel_rfl,by kernel_rfl⟩
instance:TyOne Tryz.prog 4:=⟨by kernel_rfl⟩
instance:TySz Tryz.prog 4 1:=⟨by kernel_rfl,by kernel_rfl⟩
instance:TyU Tryz.prog 5 (.int .u8):=⟨by kernel_rfl,by kernel_rfl⟩
instance:TyOne Tryz.prog 5:=⟨by kernel_rfl⟩
instance:TySz Tryz.prog 5 1:=⟨by kernel_rfl,by kernel_rfl⟩
instance:TyBy Tryz.prog 5 1:=⟨by kernel_rfl⟩
instance:TyZ Tryz.prog 5 (.int .u8 0):=⟨by kernel_rfl,by kernel_rfl,by kernel_rfl⟩
instance:TyU Tryz.prog 9 .string:=⟨by kernel_rfl,by kernel_rfl⟩
instance:TyOne Tryz.prog 9:=⟨by kernel_rfl⟩
instance:TySz Tryz.prog 9 1:=⟨by kernel_rfl,by kernel_rfl⟩
instance:TyBy Tryz.prog 9 16:=⟨by kernel_rfl⟩
instance:TyZ Tryz.prog 9 (.string ⟨#[]⟩):=⟨by kernel_rfl,by kernel_rfl,by kernel_rfl⟩
instance:TyU Tryz.prog 22 (.slice 3):=⟨by kernel_rfl,by kernel_rfl⟩
instance:TyOne Tryz.prog 22:=⟨by kernel_rfl⟩
instance:TySz Tryz.prog 22 1:=⟨by kernel_rfl,by kernel_rfl⟩
instance:TyU Tryz.prog 24 (.slice 9):=⟨by kernel_rfl,by kernel_rfl⟩
instance:TyOne Tryz.prog 25:=⟨by kernel_rfl⟩
instance:TyOne Tryz.prog 26:=⟨by kernel_rfl⟩
instance:TyAgg Tryz.prog 28 2:=⟨⟨by kernel_rfl,by kernel_rfl⟩⟩
instance:TySz Tryz.prog 28 2:=⟨by kernel_rfl,by kernel_rfl⟩
instance:TyZ Tryz.prog 28 (.agg ⟨[(.int .i64 0),(.int .i64 0)]⟩):=⟨by kernel_rfl,by kernel_rfl,by kernel_rfl⟩
instance:Go.AH.TyS Tryz.prog 28 [(.int .i64 0),(.int .i64 0)] [(0,1),(1,1)]:=⟨by kernel_rfl,by kernel_rfl,by kernel_rfl⟩
instance:FOff Tryz.prog 28 0 0:=⟨by kernel_rfl⟩
instance:TyU Tryz.prog 35 (.slice 5):=⟨by kernel_rfl,by kernel_rfl⟩
instance:TyU Tryz.prog 40 (.int .u64):=⟨by kernel_rfl,by kernel_rfl⟩
instance:TyOne Tryz.prog 40:=⟨by kernel_rfl⟩
instance:TySz Tryz.prog 40 1:=⟨by kernel_rfl,by kernel_rfl⟩
instance:TyOne Tryz.prog 49:=⟨by kernel_rfl⟩
instance:TyU Tryz.prog 50 (.slice 74):=⟨by kernel_rfl,by kernel_rfl⟩
instance:TyOne Tryz.prog 50:=⟨by kernel_rfl⟩
instance:TySz Tryz.prog 50 1:=⟨by kernel_rfl,by kernel_rfl⟩
instance:TyU Tryz.prog 51 (.slice 134):=⟨by kernel_rfl,by kernel_rfl⟩
instance:TyOne Tryz.prog 51:=⟨by kernel_rfl⟩
instance:TySz Tryz.prog 51 1:=⟨by kernel_rfl,by kernel_rfl⟩
instance:TySz Tryz.prog 53 5:=⟨by kernel_rfl,by kernel_rfl⟩
instance:Go.AH.TyS Tryz.prog 53 [(.pointer none),(.slice none 0 0),(.slice none 0 0),(.int .i64 0),(.int .i64 0)] [(0,1),(1,1),(2,1),(3,1),(4,1)]:=⟨by kernel_rfl,by kernel_rfl,by kernel_rfl⟩
instance:FOff Tryz.prog 53 0 0:=⟨by kernel_rfl⟩
instance:FOff Tryz.prog 53 1 1:=⟨by kernel_rfl⟩
instance:FOff Tryz.prog 53 2 2:=⟨by kernel_rfl⟩
instance:FOff Tryz.prog 53 3 3:=⟨by kernel_rfl⟩
instance:FOff Tryz.prog 53 4 4:=⟨by kernel_rfl⟩
instance:TyOne Tryz.prog 54:=⟨by kernel_rfl⟩
instance:TySz Tryz.prog 60 1:=⟨by kernel_rfl,by kernel_rfl⟩
instance:Go.AH.TyS Tryz.prog 60 [(.slice none 0 0)] [(0,1)]:=⟨by kernel_rfl,by kernel_rfl,by kernel_rfl⟩
instance:FOff Tryz.prog 62 0 0:=⟨by kernel_rfl⟩
instance:TyOne Tryz.prog 63:=⟨by kernel_rfl⟩
instance:TySz Tryz.prog 63 1:=⟨by kernel_rfl,by kernel_rfl⟩
instance:TyU Tryz.prog 64 (.slice 186):=⟨by kernel_rfl,by kernel_rfl⟩
instance:TyOne Tryz.prog 64:=⟨by kernel_rfl⟩
instance:TySz Tryz.prog 64 1:=⟨by kernel_rfl,by kernel_rfl⟩
instance:TySz Tryz.prog 66 9:=⟨by kernel_rfl,by kernel_rfl⟩
instance:Go.AH.TyS Tryz.prog 66 [(.int .i64 0),(.int .i64 0),(.pointer none),(.pointer none),(.pointer none),(.slice none 0 0),(.int .i64 0),(.int .i64 0),(.int .i64 0)] [(0,2),(2,1),(3,1),(4,1),(5,1),(6,1),(7,1),(8,1)]:=⟨by kernel_rfl,by kernel_rfl,by kernel_rfl⟩
instance:FOff Tryz.prog 66 0 0:=⟨by kernel_rfl⟩
instance:FOff Tryz.prog 66 1 2:=⟨by kernel_rfl⟩
instance:FOff Tryz.prog 66 2 3:=⟨by kernel_rfl⟩
instance:FOff Tryz.prog 66 3 4:=⟨by kernel_rfl⟩
instance:FOff Tryz.prog 66 4 5:=⟨by kernel_rfl⟩
instance:FOff Tryz.prog 66 5 6:=⟨by kernel_rfl⟩
instance:FOff Tryz.prog 66 6 7:=⟨by kernel_rfl⟩
instance:FOff Tryz.prog 66 7 8:=⟨by kernel_rfl⟩
instance:TyOne Tryz.prog 68:=⟨by kernel_rfl⟩
instance:TyAgg Tryz.prog 71 9:=⟨⟨by kernel_rfl,by kernel_rfl⟩⟩
instance:TySz Tryz.prog 71 9:=⟨by kernel_rfl,by kernel_rfl⟩
instance:TyZ Tryz.prog 71 (.agg ⟨[(.int .i64 0),(.int .i64 0),(.bool false),(.bool false),(.pointer none),(.int .i64 0),(.int .i64 0),(.slice none 0 0),(.pointer none)]⟩):=⟨by kernel_rfl,by kernel_rfl,by kernel_rfl⟩
instance:Go.AH.TyS Tryz.prog 71 [(.int .i64 0),(.int .i64 0),(.bool false),(.bool false),(.pointer none),(.int .i64 0),(.int .i64 0),(.slice none 0 0),(.pointer none)] [(0,1),(1,1),(2,1),(3,1),(4,1),(5,1),(6,1),(7,1),(8,1)]:=⟨by kernel_rfl,by kernel_rfl,by kernel_rfl⟩
instance:FOff Tryz.prog 71 0 0:=⟨by kernel_rfl⟩
instance:FOff Tryz.prog 71 1 1:=⟨by kernel_rfl⟩
instance:FOff Tryz.prog 71 2 2:=⟨by kernel_rfl⟩
instance:FOff Tryz.prog 71 3 3:=⟨by kernel_rfl⟩
instance:FOff Tryz.prog 71 4 4:=⟨by kernel_rfl⟩
instance:FOff Tryz.prog 71 5 5:=⟨by kernel_rfl⟩
instance:FOff Tryz.prog 71 8 8:=⟨by kernel_rfl⟩
instance:TyAgg Tryz.prog 74 15:=⟨⟨by kernel_rfl,by kernel_rfl⟩⟩
instance:TySz Tryz.prog 74 15:=⟨by kernel_rfl,by kernel_rfl⟩
instance:TyBy Tryz.prog 74 168:=⟨by kernel_rfl⟩
instance:TyZ Tryz.prog 74 (.agg ⟨[(.string ⟨#[]⟩),(.int .i64 0),(.int .i64 0),(.bool false),(.bool false),(.pointer none),(.int .i64 0),(.int .i64 0),(.slice none 0 0),(.pointer none),(.bool false),(.int .i64 0),(.slice none 0 0),(.slice none 0 0),(.bool false)]⟩):=⟨by kernel_rfl,by kernel_rfl,by kernel_rfl⟩
instance:Go.AH.TyS Tryz.prog 74 [(.string ⟨#[]⟩),(.int .i64 0),(.int .i64 0),(.bool false),(.bool false),(.pointer none),(.int .i64 0),(.int .i64 0),(.slice none 0 0),(.pointer none),(.bool false),(.int .i64 0),(.slice none 0 0),(.slice none 0 0),(.bool false)] [(0,1),(1,9),(10,1),(11,1),(12,1),(13,1),(14,1)]:=⟨by kernel_rfl,by kernel_rfl,by kernel_rfl⟩
instance:FOff Tryz.prog 74 0 0:=⟨by kernel_rfl⟩
instance:FOff Tryz.prog 74 1 1:=⟨by kernel_rfl⟩
instance:TyU Tryz.prog 90 (.slice 102):=⟨by kernel_rfl,by kernel_rfl⟩
instance:TyOne Tryz.prog 90:=⟨by kernel_rfl⟩
instance:TySz Tryz.prog 95 6:=⟨by kernel_rfl,by kernel_rfl⟩
instance:Go.AH.TyS Tryz.prog 95 [(.slice none 0 0),(.int .i64 0),(.int .i64 0),(.int .i64 0),(.int .i64 0),(.int .i64 0)] [(0,1),(1,1),(2,1),(3,1),(4,2)]:=⟨by kernel_rfl,by kernel_rfl,by kernel_rfl⟩
instance:FOff Tryz.prog 95 0 0:=⟨by kernel_rfl⟩
instance:FOff Tryz.prog 95 1 1:=⟨by kernel_rfl⟩
instance:FOff Tryz.prog 95 2 2:=⟨by kernel_rfl⟩
instance:FOff Tryz.prog 95 3 3:=⟨by kernel_rfl⟩
instance:FOff Tryz.prog 95 4 4:=⟨by kernel_rfl⟩
instance:TyU Tryz.prog 96 (.slice 108):=⟨by kernel_rfl,by kernel_rfl⟩
instance:TyOne Tryz.prog 96:=⟨by kernel_rfl⟩
instance:TyU Tryz.prog 97 (.slice 124):=⟨by kernel_rfl,by kernel_rfl⟩
instance:TyOne Tryz.prog 97:=⟨by kernel_rfl⟩
instance:TySz Tryz.prog 97 1:=⟨by kernel_rfl,by kernel_rfl⟩
instance:TyU Tryz.prog 98 (.slice 130):=⟨by kernel_rfl,by kernel_rfl⟩
instance:TyOne Tryz.prog 98:=⟨by kernel_rfl⟩
instance:TySz Tryz.prog 98 1:=⟨by kernel_rfl,by kernel_rfl⟩
instance:TySz Tryz.prog 100 3:=⟨by kernel_rfl,by kernel_rfl⟩
instance:Go.AH.TyS Tryz.prog 100 [(.slice none 0 0),(.slice none 0 0),(.slice none 0 0)] [(0,1),(1,1),(2,1)]:=⟨by kernel_rfl,by kernel_rfl,by kernel_rfl⟩
instance:FOff Tryz.prog 100 0 0:=⟨by kernel_rfl⟩
instance:FOff Tryz.prog 100 1 1:=⟨by kernel_rfl⟩
instance:FOff Tryz.prog 100 2 2:=⟨by kernel_rfl⟩
instance:TyAgg Tryz.prog 102 6:=⟨⟨by kernel_rfl,by kernel_rfl⟩⟩
instance:TySz Tryz.prog 102 6:=⟨by kernel_rfl,by kernel_rfl⟩
instance:TyBy Tryz.prog 102 48:=⟨by kernel_rfl⟩
instance:TyZ Tryz.prog 102 (.agg ⟨[(.int .i64 0),(.string ⟨#[]⟩),(.int .i64 0),(.int .u64 0),(.bool false),(.bool false)]⟩):=⟨by kernel_rfl,by kernel_rfl,by kernel_rfl⟩
instance:Go.AH.TyS Tryz.prog 102 [(.int .i64 0),(.string ⟨#[]⟩),(.int .i64 0),(.int .u64 0),(.bool false),(.bool false)] [(0,1),(1,1),(2,1),(3,1),(4,1),(5,1)]:=⟨by kernel_rfl,by kernel_rfl,by kernel_rfl⟩
instance:FOff Tryz.prog 102 0 0:=⟨by kernel_rfl⟩
instance:FOff Tryz.prog 102 1 1:=⟨by kernel_rfl⟩
instance:FOff Tryz.prog 102 2 2:=⟨by kernel_rfl⟩
instance:FOff Tryz.prog 102 3 3:=⟨by kernel_rfl⟩
instance:FOff Tryz.prog 102 4 4:=⟨by kernel_rfl⟩
instance:FOff Tryz.prog 102 5 5:=⟨by kernel_rfl⟩
instance:TyU Tryz.prog 106 (.slice 116):=⟨by kernel_rfl,by kernel_rfl⟩
instance:TyOne Tryz.prog 106:=⟨by kernel_rfl⟩
instance:TySz Tryz.prog 106 1:=⟨by kernel_rfl,by kernel_rfl⟩
instance:TyAgg Tryz.prog 111 5:=⟨⟨by kernel_rfl,by kernel_rfl⟩⟩
instance:TySz Tryz.prog 111 5:=⟨by kernel_rfl,by kernel_rfl⟩
instance:TyZ Tryz.prog 111 (.agg ⟨[(.bool false),(.string ⟨#[]⟩),(.bool false),(.string ⟨#[]⟩),(.int .i64 0)]⟩):=⟨by kernel_rfl,by kernel_rfl,by kernel_rfl⟩
instance:Go.AH.TyS Tryz.prog 111 [(.bool false),(.string ⟨#[]⟩),(.bool false),(.string ⟨#[]⟩),(.int .i64 0)] [(0,1),(1,1),(2,1),(3,1),(4,1)]:=⟨by kernel_rfl,by kernel_rfl,by kernel_rfl⟩
instance:FOff Tryz.prog 111 0 0:=⟨by kernel_rfl⟩
instance:FOff Tryz.prog 111 1 1:=⟨by kernel_rfl⟩
instance:FOff Tryz.prog 111 2 2:=⟨by kernel_rfl⟩
instance:TyAgg Tryz.prog 114 9:=⟨⟨by kernel_rfl,by kernel_rfl⟩⟩
instance:TySz Tryz.prog 114 9:=⟨by kernel_rfl,by kernel_rfl⟩
instance:TyZ Tryz.prog 114 (.agg ⟨[(.bool false),(.string ⟨#[]⟩),(.bool false),(.string ⟨#[]⟩),(.int .i64 0),(.int .i64 0),(.slice none 0 0),(.bool false),(.slice none 0 0)]⟩):=⟨by kernel_rfl,by kernel_rfl,by kernel_rfl⟩
instance:Go.AH.TyS Tryz.prog 114 [(.bool false),(.string ⟨#[]⟩),(.bool false),(.string ⟨#[]⟩),(.int .i64 0),(.int .i64 0),(.slice none 0 0),(.bool false),(.slice none 0 0)] [(0,5),(5,1),(6,1),(7,1),(8,1)]:=⟨by kernel_rfl,by kernel_rfl,by kernel_rfl⟩
instance:FOff Tryz.prog 114 0 0:=⟨by kernel_rfl⟩
instance:FOff Tryz.prog 114 1 5:=⟨by kernel_rfl⟩
instance:FOff Tryz.prog 114 2 6:=⟨by kernel_rfl⟩
instance:FOff Tryz.prog 114 3 7:=⟨by kernel_rfl⟩
instance:TyAgg Tryz.prog 116 11:=⟨⟨by kernel_rfl,by kernel_rfl⟩⟩
instance:TySz Tryz.prog 116 11:=⟨by kernel_rfl,by kernel_rfl⟩
instance:TyBy Tryz.prog 116 144:=⟨by kernel_rfl⟩
instance:TyZ Tryz.prog 116 (.agg ⟨[(.bool false),(.string ⟨#[]⟩),(.bool false),(.string ⟨#[]⟩),(.int .i64 0),(.int .i64 0),(.slice none 0 0),(.bool false),(.slice none 0 0),(.string ⟨#[]⟩),(.int .i64 0)]⟩):=⟨by kernel_rfl,by kernel_rfl,by kernel_rfl⟩
instance:Go.AH.TyS Tryz.prog 116 [(.bool false),(.string ⟨#[]⟩),(.bool false),(.string ⟨#[]⟩),(.int .i64 0),(.int .i64 0),(.slice none 0 0),(.bool false),(.slice none 0 0),(.string ⟨#[]⟩),(.int .i64 0)] [(0,9),(9,1),(10,1)]:=⟨by kernel_rfl,by kernel_rfl,by kernel_rfl⟩
instance:FOff Tryz.prog 116 0 0:=⟨by kernel_rfl⟩
instance:FOff Tryz.prog 116 1 9:=⟨by kernel_rfl⟩
instance:FOff Tryz.prog 116 2 10:=⟨by kernel_rfl⟩
instance:TyU Tryz.prog 122 (.pointer 184):=⟨by kernel_rfl,by kernel_rfl⟩
instance:TyOne Tryz.prog 122:=⟨by kernel_rfl⟩
instance:TyAgg Tryz.prog 124 12:=⟨⟨by kernel_rfl,by kernel_rfl⟩⟩
instance:TySz Tryz.prog 124 12:=⟨by kernel_rfl,by kernel_rfl⟩
instance:TyBy Tryz.prog 124 152:=⟨by kernel_rfl⟩
instance:TyZ Tryz.prog 124 (.agg ⟨[(.bool false),(.string ⟨#[]⟩),(.bool false),(.string ⟨#[]⟩),(.int .i64 0),(.int .i64 0),(.slice none 0 0),(.bool false),(.slice none 0 0),(.string ⟨#[]⟩),(.int .i64 0),(.pointer none)]⟩):=⟨by kernel_rfl,by kernel_rfl,by kernel_rfl⟩
instance:Go.AH.TyS Tryz.prog 124 [(.bool false),(.string ⟨#[]⟩),(.bool false),(.string ⟨#[]⟩),(.int .i64 0),(.int .i64 0),(.slice none 0 0),(.bool false),(.slice none 0 0),(.string ⟨#[]⟩),(.int .i64 0),(.pointer none)] [(0,11),(11,1)]:=⟨by kernel_rfl,by kernel_rfl,by kernel_rfl⟩
instance:FOff Tryz.prog 124 0 0:=⟨by kernel_rfl⟩
instance:FOff Tryz.prog 124 1 11:=⟨by kernel_rfl⟩
instance:TyOne Tryz.prog 128:=⟨by kernel_rfl⟩
instance:TySz Tryz.prog 128 1:=⟨by kernel_rfl,by kernel_rfl⟩
instance:TyBy Tryz.prog 128 8:=⟨by kernel_rfl⟩
instance:TyZ Tryz.prog 128 (.pointer none):=⟨by kernel_rfl,by kernel_rfl,by kernel_rfl⟩
instance:TyAgg Tryz.prog 130 13:=⟨⟨by kernel_rfl,by kernel_rfl⟩⟩
instance:TySz Tryz.prog 130 13:=⟨by kernel_rfl,by kernel_rfl⟩
instance:TyBy Tryz.prog 130 176:=⟨by kernel_rfl⟩
instance:TyZ Tryz.prog 130 (.agg ⟨[(.bool false),(.string ⟨#[]⟩),(.bool false),(.string ⟨#[]⟩),(.int .i64 0),(.int .i64 0),(.slice none 0 0),(.bool false),(.slice none 0 0),(.string ⟨#[]⟩),(.int .i64 0),(.slice none 0 0),(.pointer none)]⟩):=⟨by kernel_rfl,by kernel_rfl,by kernel_rfl⟩
instance:Go.AH.TyS Tryz.prog 130 [(.bool false),(.string ⟨#[]⟩),(.bool false),(.string ⟨#[]⟩),(.int .i64 0),(.int .i64 0),(.slice none 0 0),(.bool false),(.slice none 0 0),(.string ⟨#[]⟩),(.int .i64 0),(.slice none 0 0),(.pointer none)] [(0,9),(9,1),(10,1),(11,1),(12,1)]:=⟨by kernel_rfl,by kernel_rfl,by kernel_rfl⟩
instance:FOff Tryz.prog 130 0 0:=⟨by kernel_rfl⟩
instance:FOff Tryz.prog 130 1 9:=⟨by kernel_rfl⟩
instance:FOff Tryz.prog 130 2 10:=⟨by kernel_rfl⟩
instance:FOff Tryz.prog 130 3 11:=⟨by kernel_rfl⟩
instance:FOff Tryz.prog 130 4 12:=⟨by kernel_rfl⟩
instance:TySz Tryz.prog 132 1:=⟨by kernel_rfl,by kernel_rfl⟩
instance:TyBy Tryz.prog 132 8:=⟨by kernel_rfl⟩
instance:TyZ Tryz.prog 132 (.pointer none):=⟨by kernel_rfl,by kernel_rfl,by kernel_rfl⟩
instance:TyAgg Tryz.prog 134 14:=⟨⟨by kernel_rfl,by kernel_rfl⟩⟩
instance:TySz Tryz.prog 134 14:=⟨by kernel_rfl,by kernel_rfl⟩
instance:TyBy Tryz.prog 134 144:=⟨by kernel_rfl⟩
instance:TyZ Tryz.prog 134 (.agg ⟨[(.string ⟨#[]⟩),(.int .i64 0),(.int .i64 0),(.bool false),(.bool false),(.pointer none),(.int .i64 0),(.int .i64 0),(.slice none 0 0),(.pointer none),(.int .i64 0),(.int .i64 0),(.slice none 0 0),(.pointer none)]⟩):=⟨by kernel_rfl,by kernel_rfl,by kernel_rfl⟩
instance:Go.AH.TyS Tryz.prog 134 [(.string ⟨#[]⟩),(.int .i64 0),(.int .i64 0),(.bool false),(.bool false),(.pointer none),(.int .i64 0),(.int .i64 0),(.slice none 0 0),(.pointer none),(.int .i64 0),(.int .i64 0),(.slice none 0 0),(.pointer none)] [(0,1),(1,9),(10,1),(11,1),(12,1),(13,1)]:=⟨by kernel_rfl,by kernel_rfl,by kernel_rfl⟩
instance:FOff Tryz.prog 134 0 0:=⟨by kernel_rfl⟩
instance:FOff Tryz.prog 134 1 1:=⟨by kernel_rfl⟩
instance:FOff Tryz.prog 134 4 12:=⟨by kernel_rfl⟩
instance:FOff Tryz.prog 134 5 13:=⟨by kernel_rfl⟩
instance:TyU Tryz.prog 181 (.pointer 232):=⟨by kernel_rfl,by kernel_rfl⟩
instance:TyOne Tryz.prog 181:=⟨by kernel_rfl⟩
instance:TySz Tryz.prog 181 1:=⟨by kernel_rfl,by kernel_rfl⟩
instance:TyBy Tryz.prog 181 8:=⟨by kernel_rfl⟩
instance:TyZ Tryz.prog 181 (.pointer none):=⟨by kernel_rfl,by kernel_rfl,by kernel_rfl⟩
instance:TyAgg Tryz.prog 186 3:=⟨⟨by kernel_rfl,by kernel_rfl⟩⟩
instance:TySz Tryz.prog 186 3:=⟨by kernel_rfl,by kernel_rfl⟩
instance:TyBy Tryz.prog 186 32:=⟨by kernel_rfl⟩
instance:TyZ Tryz.prog 186 (.agg ⟨[(.string ⟨#[]⟩),(.int .i64 0),(.int .i64 0)]⟩):=⟨by kernel_rfl,by kernel_rfl,by kernel_rfl⟩
instance:Go.AH.TyS Tryz.prog 186 [(.string ⟨#[]⟩),(.int .i64 0),(.int .i64 0)] [(0,1),(1,1),(2,1)]:=⟨by kernel_rfl,by kernel_rfl,by kernel_rfl⟩
instance:FOff Tryz.prog 186 0 0:=⟨by kernel_rfl⟩
instance:FOff Tryz.prog 186 1 1:=⟨by kernel_rfl⟩
instance:FOff Tryz.prog 186 2 2:=⟨by kernel_rfl⟩
instance:TyU Tryz.prog 188 (.slice 128):=⟨by kernel_rfl,by kernel_rfl⟩
instance:TyOne Tryz.prog 188:=⟨by kernel_rfl⟩
instance:TySz Tryz.prog 188 1:=⟨by kernel_rfl,by kernel_rfl⟩
instance:TySz Tryz.prog 191 17:=⟨by kernel_rfl,by kernel_rfl⟩
instance:Go.AH.TyS Tryz.prog 191 [(.int .i64 0),(.int .i64 0),(.bool false),(.string ⟨#[]⟩),(.bool false),(.string ⟨#[]⟩),(.int .i64 0),(.int .i64 0),(.slice none 0 0),(.bool false),(.slice none 0 0),(.string ⟨#[]⟩),(.int .i64 0),(.pointer none),(.pointer none),(.slice none 0 0),(.slice none 0 0)] [(0,1),(1,1),(2,11),(13,1),(14,1),(15,1),(16,1)]:=⟨by kernel_rfl,by kernel_rfl,by kernel_rfl⟩
instance:FOff Tryz.prog 191 0 0:=⟨by kernel_rfl⟩
instance:FOff Tryz.prog 191 1 1:=⟨by kernel_rfl⟩
instance:FOff Tryz.prog 191 2 2:=⟨by kernel_rfl⟩
instance:FOff Tryz.prog 191 3 13:=⟨by kernel_rfl⟩
instance:FOff Tryz.prog 191 5 15:=⟨by kernel_rfl⟩
instance:TyU Tryz.prog 192 (.pointer 225):=⟨by kernel_rfl,by kernel_rfl⟩
instance:TyOne Tryz.prog 192:=⟨by kernel_rfl⟩
instance:TySz Tryz.prog 192 1:=⟨by kernel_rfl,by kernel_rfl⟩
instance:TyZ Tryz.prog 192 (.pointer none):=⟨by kernel_rfl,by kernel_rfl,by kernel_rfl⟩
instance:TyU Tryz.prog 193 (.slice 132):=⟨by kernel_rfl,by kernel_rfl⟩
instance:TySz Tryz.prog 193 1:=⟨by kernel_rfl,by kernel_rfl⟩
instance:TySz Tryz.prog 196 7:=⟨by kernel_rfl,by kernel_rfl⟩
instance:Go.AH.TyS Tryz.prog 196 [(.int .i64 0),(.int .i64 0),(.int .i64 0),(.pointer none),(.pointer none),(.slice none 0 0),(.slice none 0 0)] [(0,1),(1,1),(2,1),(3,1),(4,1),(5,1),(6,1)]:=⟨by kernel_rfl,by kernel_rfl,by kernel_rfl⟩
instance:FOff Tryz.prog 196 2 2:=⟨by kernel_rfl⟩
instance:FOff Tryz.prog 196 3 3:=⟨by kernel_rfl⟩
instance:FOff Tryz.prog 196 5 5:=⟨by kernel_rfl⟩
instance:TyU Tryz.prog 223 (.slice 192):=⟨by kernel_rfl,by kernel_rfl⟩
instance:TySz Tryz.prog 223 1:=⟨by kernel_rfl,by kernel_rfl⟩
instance:TySz Tryz.prog 225 25:=⟨by kernel_rfl,by kernel_rfl⟩
instance:Go.AH.TyS Tryz.prog 225 [(.int .i64 0),(.int .i64 0),(.int .i64 0),(.int .i64 0),(.bool false),(.bool false),(.pointer none),(.int .i64 0),(.int .i64 0),(.slice none 0 0),(.pointer none),(.int .i64 0),(.int .i64 0),(.bool false),(.bool false),(.pointer none),(.int .i64 0),(.int .i64 0),(.slice none 0 0),(.pointer none),(.bool false),(.string ⟨#[]⟩),(.int .i64 0),(.int .i64 0),(.slice none 0 0)] [(0,1),(1,1),(2,9),(11,9),(20,1),(21,1),(22,1),(23,1),(24,1)]:=⟨by kernel_rfl,by kernel_rfl,by kernel_rfl⟩
instance:FOff Tryz.prog 225 0 0:=⟨by kernel_rfl⟩
instance:FOff Tryz.prog 225 1 1:=⟨by kernel_rfl⟩
instance:FOff Tryz.prog 225 2 2:=⟨by kernel_rfl⟩
instance:FOff Tryz.prog 225 4 20:=⟨by kernel_rfl⟩
instance:FOff Tryz.prog 225 8 24:=⟨by kernel_rfl⟩
instance:TyU Tryz.prog 230 (.slice 181):=⟨by kernel_rfl,by kernel_rfl⟩
instance:TyOne Tryz.prog 230:=⟨by kernel_rfl⟩
instance:TySz Tryz.prog 232 19:=⟨by kernel_rfl,by kernel_rfl⟩
instance:Go.AH.TyS Tryz.prog 232 [(.int .i64 0),(.int .i64 0),(.string ⟨#[]⟩),(.int .i64 0),(.string ⟨#[]⟩),(.int .i64 0),(.int .u64 0),(.bool false),(.bool false),(.bool false),(.string ⟨#[]⟩),(.bool false),(.string ⟨#[]⟩),(.int .i64 0),(.int .i64 0),(.slice none 0 0),(.bool false),(.slice none 0 0),(.slice none 0 0)] [(0,1),(1,1),(2,1),(3,6),(9,9),(18,1)]:=⟨by kernel_rfl,by kernel_rfl,by kernel_rfl⟩
instance:FOff Tryz.prog 232 0 0:=⟨by kernel_rfl⟩
instance:FOff Tryz.prog 232 1 1:=⟨by kernel_rfl⟩
instance:FOff Tryz.prog 232 2 2:=⟨by kernel_rfl⟩
instance:FOff Tryz.prog 232 3 3:=⟨by kernel_rfl⟩
instance:FOff Tryz.prog 232 4 9:=⟨by kernel_rfl⟩
instance:FOff Tryz.prog 232 5 18:=⟨by kernel_rfl⟩
instance:TyU Tryz.prog 249 (.array 256 5):=⟨by kernel_rfl,by kernel_rfl⟩
instance:TyU Tryz.prog 299 (.array 2 192):=⟨by kernel_rfl,by kernel_rfl⟩
instance:TyZ Tryz.prog 299 (.agg ⟨[(.pointer none),(.pointer none)]⟩):=⟨by kernel_rfl,by kernel_rfl,by kernel_rfl⟩
instance:GF Tryz.prog 7:=⟨by kernel_rfl⟩
instance:GF Tryz.prog 8:=⟨by kernel_rfl⟩
instance:GF Tryz.prog 16:=⟨by kernel_rfl⟩
instance:GF Tryz.prog 17:=⟨by kernel_rfl⟩
instance:GF Tryz.prog 18:=⟨by kernel_rfl⟩
instance:GF Tryz.prog 19:=⟨by kernel_rfl⟩
instance:GF Tryz.prog 20:=⟨by kernel_rfl⟩
instance:GF Tryz.prog 21:=⟨by kernel_rfl⟩
instance:GF Tryz.prog 22:=⟨by kernel_rfl⟩
instance:GF Tryz.prog 29:=⟨by kernel_rfl⟩
instance:GF Tryz.prog 30:=⟨by kernel_rfl⟩
instance:GF Tryz.prog 31:=⟨by kernel_rfl⟩
instance:GF Tryz.prog 32:=⟨by kernel_rfl⟩
instance:GF Tryz.prog 33:=⟨by kernel_rfl⟩
instance:GF Tryz.prog 34:=⟨by kernel_rfl⟩
instance:GF Tryz.prog 36:=⟨by kernel_rfl⟩
instance:GF Tryz.prog 37:=⟨by kernel_rfl⟩
instance:GF Tryz.prog 38:=⟨by kernel_rfl⟩
instance:GF Tryz.prog 39:=⟨by kernel_rfl⟩
instance:GF Tryz.prog 40:=⟨by kernel_rfl⟩
instance:GF Tryz.prog 42:=⟨by kernel_rfl⟩
instance:GF Tryz.prog 43:=⟨by kernel_rfl⟩
instance:GF Tryz.prog 44:=⟨by kernel_rfl⟩
instance:GF Tryz.prog 55:=⟨by kernel_rfl⟩
instance:GF Tryz.prog 56:=⟨by kernel_rfl⟩
instance:GF Tryz.prog 57:=⟨by kernel_rfl⟩
instance:GF Tryz.prog 58:=⟨by kernel_rfl⟩
instance:GF Tryz.prog 59:=⟨by kernel_rfl⟩
instance:GF Tryz.prog 60:=⟨by kernel_rfl⟩
instance:GF Tryz.prog 62:=⟨by kernel_rfl⟩
instance:GF Tryz.prog 63:=⟨by kernel_rfl⟩
instance:GF Tryz.prog 64:=⟨by kernel_rfl⟩
instance:GF Tryz.prog 65:=⟨by kernel_rfl⟩
instance:GF Tryz.prog 66:=⟨by kernel_rfl⟩
instance:GF Tryz.prog 68:=⟨by kernel_rfl⟩
instance:GF Tryz.prog 69:=⟨by kernel_rfl⟩
instance:GF Tryz.prog 70:=⟨by kernel_rfl⟩
instance:GF Tryz.prog 71:=⟨by kernel_rfl⟩
instance:GF Tryz.prog 75:=⟨by kernel_rfl⟩
instance:GF Tryz.prog 76:=⟨by kernel_rfl⟩
instance:GF Tryz.prog 77:=⟨by kernel_rfl⟩
instance:GF Tryz.prog 78:=⟨by kernel_rfl⟩
instance:GF Tryz.prog 79:=⟨by kernel_rfl⟩
instance:GF Tryz.prog 80:=⟨by kernel_rfl⟩
instance:GF Tryz.prog 81:=⟨by kernel_rfl⟩
instance:GF Tryz.prog 86:=⟨by kernel_rfl⟩
instance:GF Tryz.prog 98:=⟨by kernel_rfl⟩
instance:GF Tryz.prog 99:=⟨by kernel_rfl⟩
instance:GF Tryz.prog 100:=⟨by kernel_rfl⟩
instance:GF Tryz.prog 101:=⟨by kernel_rfl⟩
instance:GF Tryz.prog 102:=⟨by kernel_rfl⟩
instance:GF Tryz.prog 103:=⟨by kernel_rfl⟩
instance:GF Tryz.prog 104:=⟨by kernel_rfl⟩
instance:GF Tryz.prog 105:=⟨by kernel_rfl⟩
instance:GF Tryz.prog 106:=⟨by kernel_rfl⟩
instance:GF Tryz.prog 107:=⟨by kernel_rfl⟩
instance:GF Tryz.prog 108:=⟨by kernel_rfl⟩
instance:GF Tryz.prog 109:=⟨by kernel_rfl⟩
instance:GF Tryz.prog 111:=⟨by kernel_rfl⟩
instance:GF Tryz.prog 112:=⟨by kernel_rfl⟩
instance:GF Tryz.prog 113:=⟨by kernel_rfl⟩
instance:GF Tryz.prog 114:=⟨by kernel_rfl⟩
instance:GF Tryz.prog 115:=⟨by kernel_rfl⟩
instance:GF Tryz.prog 118:=⟨by kernel_rfl⟩
instance:GF Tryz.prog 119:=⟨by kernel_rfl⟩
instance:GF Tryz.prog 122:=⟨by kernel_rfl⟩
instance:GF Tryz.prog 123:=⟨by kernel_rfl⟩
instance:GF Tryz.prog 124:=⟨by kernel_rfl⟩
instance:GF Tryz.prog 125:=⟨by kernel_rfl⟩
instance:GF Tryz.prog 126:=⟨by kernel_rfl⟩
instance:GF Tryz.prog 127:=⟨by kernel_rfl⟩
instance:GF Tryz.prog 140:=⟨by kernel_rfl⟩
instance:GF Tryz.prog 143:=⟨by kernel_rfl⟩
instance:GF Tryz.prog 146:=⟨by kernel_rfl⟩
instance:GF Tryz.prog 149:=⟨by kernel_rfl⟩
instance:GF Tryz.prog 150:=⟨by kernel_rfl⟩
instance:GF Tryz.prog 151:=⟨by kernel_rfl⟩
instance:GF Tryz.prog 152:=⟨by kernel_rfl⟩
instance:GF Tryz.prog 153:=⟨by kernel_rfl⟩
instance:GF Tryz.prog 154:=⟨by kernel_rfl⟩
instance:GF Tryz.prog 155:=⟨by kernel_rfl⟩
instance:GF Tryz.prog 158:=⟨by kernel_rfl⟩
instance:GF Tryz.prog 170:=⟨by kernel_rfl⟩
instance:GF Tryz.prog 171:=⟨by kernel_rfl⟩
instance:GF Tryz.prog 172:=⟨by kernel_rfl⟩
instance:GF Tryz.prog 173:=⟨by kernel_rfl⟩
instance:GF Tryz.prog 174:=⟨by kernel_rfl⟩
instance:GF Tryz.prog 175:=⟨by kernel_rfl⟩
instance:GF Tryz.prog 176:=⟨by kernel_rfl⟩
instance:GF Tryz.prog 178:=⟨by kernel_rfl⟩
instance:GF Tryz.prog 179:=⟨by kernel_rfl⟩
instance:GF Tryz.prog 181:=⟨by kernel_rfl⟩
instance:GF Tryz.prog 182:=⟨by kernel_rfl⟩
instance:GF Tryz.prog 183:=⟨by kernel_rfl⟩
instance:GF Tryz.prog 184:=⟨by kernel_rfl⟩
instance:GF Tryz.prog 185:=⟨by kernel_rfl⟩
instance:GF Tryz.prog 192:=⟨by kernel_rfl⟩
instance:GF Tryz.prog 193:=⟨by kernel_rfl⟩
instance:GF Tryz.prog 194:=⟨by kernel_rfl⟩
instance:GF Tryz.prog 195:=⟨by kernel_rfl⟩
instance:GF Tryz.prog 196:=⟨by kernel_rfl⟩
instance:GF Tryz.prog 197:=⟨by kernel_rfl⟩
instance:GF Tryz.prog 199:=⟨by kernel_rfl⟩
instance:GF Tryz.prog 200:=⟨by kernel_rfl⟩
end Go.Proofs.YtgpigfcagppohaaGreatDoor
