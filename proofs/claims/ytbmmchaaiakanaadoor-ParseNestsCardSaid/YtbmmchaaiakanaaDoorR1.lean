/-
  What the functions that the law reaches compute,told by plain data;it holds of programs that pass the check of right form and are light.
-/
import Derived.KernelRfl
import Derived.Lib.IndexBytes
import Derived.Lib.IndexLaws
import Derived.Lib.IndexMore
import Derived.Lib.Strings
import Derived.Shelf.Small.Strs
import Derived.Shelf.Strings.Search1
import Derived.Shelf.Strings.Search2
import Derived.Shelf.Strings.Search3
import Derived.Test.YtbmmchaaiakanaaDoorProg
import Derived.Test.YtbmmchaaiakanaaDoorRows
import Derived.Test.YtbmmchaaiakanaaDoorS1
import Derived.Test.YtbmmchaaiakanaaDoorS2
set_option linter.unusedVariables false
set_option linter.unusedSimpArgs false
namespace Go.Proofs.YtbmmchaaiakanaaDoor
open Go.AH
structure Y0q (q:Prop):Prop where
 a:q
theorem YD {p q r:Prop} (h1:q) (h2:r) (h:Y0q q→Y0q r→p:=by intro zq1 zq2;(first|((with_reducible apply RS.splitD);(iterate 2 exact rfl))|fail);exact zq1.1;exact zq2.1):p:=h ⟨h1⟩ ⟨h2⟩
theorem YG {p q r:Prop} (h1:q) (h2:r) (h:Y0q q→Y0q r→p:=by intro zq1 zq2;(first|((with_reducible apply RS.splitG);(iterate 2 exact rfl);(fail_if_success exact fun h=>nomatch (h:true=false));(fail_if_success exact fun h=>nomatch (h:false=true)))|fail);exact zq1.1;(fail_if_success exact fun h=>nomatch (h:true=false));(fail_if_success exact fun h=>nomatch (h:false=true));exact zq2.1):p:=h ⟨h1⟩ ⟨h2⟩
theorem YC {p q r:Prop} (h1:q) (h2:r) (h:Y0q q→Y0q r→p:=by intro zq1 zq2;(first|((with_reducible apply W.condD);exact rfl)|fail);exact zq1.1;exact zq2.1):p:=h ⟨h1⟩ ⟨h2⟩
theorem YN {p q r:Prop} (h1:q) (h2:r) (h:Y0q q→Y0q r→p:=by intro zq1 zq2;(first|((with_reducible apply W.cond);exact rfl;(fail_if_success exact fun h=>nomatch (h:true=false));(fail_if_success exact fun h=>nomatch (h:false=true)))|fail);exact zq1.1;(fail_if_success exact fun h=>nomatch (h:true=false));(fail_if_success exact fun h=>nomatch (h:false=true));exact zq2.1):p:=h ⟨h1⟩ ⟨h2⟩
theorem Y0 {p q:Prop} (hq:q) (h:Y0q q→p:=by intro zq;(first|((with_reducible apply RS.nil);exact mixed;kernel_rfl)|fail);exact zq.1):p:=h ⟨hq⟩
theorem Y1 {p q:Prop} (hq:q) (h:Y0q q→p:=by intro zq;(first|((with_reducible apply W.reg);kernel_rfl)|fail);exact zq.1):p:=h ⟨hq⟩
theorem Y2 {p q:Prop} (hq:q) (h:Y0q q→p:=by intro zq;(first|((with_reducible apply RS.store);(iterate 5 exact rfl);exact Nat.le_of_ble_eq_true rfl;(iterate 3 exact rfl))|fail);exact zq.1):p:=h ⟨hq⟩
theorem Y3 {p q:Prop} (hq:q) (h:Y0q q→p:=by intro zq;(first|((with_reducible apply W.condF);kernel_rfl;exact rfl)|fail);exact zq.1):p:=h ⟨hq⟩
theorem Y4 {p q:Prop} (hq:q) (h:Y0q q→p:=by intro zq;(first|((with_reducible first|apply RS.move|apply RS.assign);(iterate 3 exact rfl))|fail);exact zq.1):p:=h ⟨hq⟩
theorem Y5 {p q:Prop} (hq:q) (h:Y0q q→p:=by intro zq;(first|((with_reducible apply W.condT);kernel_rfl;exact rfl)|fail);exact zq.1):p:=h ⟨hq⟩
theorem Y6 {p q:Prop} (hq:q) (h:Y0q q→p:=by intro zq;(first|((with_reducible apply RS.cmpT);(iterate 4 exact rfl);(simp only [cmpP];omega))|fail);exact zq.1):p:=h ⟨hq⟩
theorem Y7 {p q:Prop} (hq:q) (h:Y0q q→p:=by intro zq;(first|((with_reducible apply RS.cmpF);(iterate 4 exact rfl);(simp only [cmpN];omega))|fail);exact zq.1):p:=h ⟨hq⟩
theorem Y8 {p q:Prop} (hq:q) (h:Y0q q→p:=by intro zq;(first|((with_reducible apply RS.alloc);(iterate 2 exact rfl))|fail);exact zq.1):p:=h ⟨hq⟩
theorem Y9 {p q:Prop} (hq:q) (h:Y0q q→p:=by intro zq;(first|((with_reducible apply RS.load1B);(iterate 3 exact rfl);exact q.o.keep hT tn tne;exact q.d _ _ (q.o.keep hT tn tne);exact rfl)|fail);exact zq.1):p:=h ⟨hq⟩
theorem Ya {p q:Prop} (hq:q) (h:Y0q q→p:=by intro zq;(first|((with_reducible apply RS.indexAddrS);(iterate 4 exact rfl);(first|exact Int.ofNat_zero.symm|exact (rfl:(1:Int)=((1:Nat):Int))|exact (rfl:(2:Int)=((2:Nat):Int))|exact (rfl:(3:Int)=((3:Nat):Int)));exact Nat.le_of_ble_eq_true rfl)|fail);exact zq.1):p:=h ⟨hq⟩
theorem Yb {p q:Prop} (hq:q) (h:Y0q q→p:=by intro zq;(first|((with_reducible apply RS.pickT);(iterate 4 exact rfl))|fail);exact zq.1):p:=h ⟨hq⟩
theorem Yc {p q:Prop} (hq:q) (h:Y0q q→p:=by intro zq;(first|((with_reducible first|apply RS.nilCheck|apply RS.move|apply RS.assign|apply RS.fieldAddr);(iterate 3 exact rfl))|fail);exact zq.1):p:=h ⟨hq⟩
theorem Yd {p q:Prop} (hq:q) (h:Y0q q→p:=by intro zq;(first|((with_reducible apply RS.pickF);(iterate 4 exact rfl))|fail);exact zq.1):p:=h ⟨hq⟩
theorem Ye {p q:Prop} (hq:q) (h:Y0q q→p:=by intro zq;(first|((with_reducible apply RS.add1);(iterate 4 exact rfl);omega)|fail);exact zq.1):p:=h ⟨hq⟩
theorem Yf {p q:Prop} (hq:q) (h:Y0q q→p:=by intro zq;(first|((with_reducible apply blockK_hit);exact rfl)|fail);exact zq.1):p:=h ⟨hq⟩
theorem Yg {p q:Prop} (hq:q) (h:Y0q q→p:=by intro zq;(first|((with_reducible first|apply RS.move|apply RS.assign|apply RS.fieldAddr);(iterate 3 exact rfl))|fail);exact zq.1):p:=h ⟨hq⟩
theorem Yh {p q:Prop} (hq:q) (h:Y0q q→p:=by intro zq;(first|((with_reducible apply RS.buildSlice);(iterate 8 exact rfl))|fail);exact zq.1):p:=h ⟨hq⟩
theorem Yi {p q:Prop} (hq:q) (h:Y0q q→p:=by intro zq;(first|((with_reducible apply RS.build);(iterate 4 exact rfl))|fail);exact zq.1):p:=h ⟨hq⟩
theorem Yj {p q:Prop} (hq:q) (h:Y0q q→p:=by intro zq;(first|((with_reducible apply RS.sliceStr);(iterate 3 exact rfl);(first|exact ⟨_,_,rfl,rfl⟩|exact rfl);(first|exact ⟨_,_,rfl,rfl⟩|exact rfl);omega;omega)|fail);exact zq.1):p:=h ⟨hq⟩
theorem Yk {p q:Prop} (hq:q) (h:Y0q q→p:=by intro zq;(first|((with_reducible apply RS.loadN);(iterate 5 exact rfl);exact Nat.le_of_ble_eq_true rfl)|fail);exact zq.1):p:=h ⟨hq⟩
theorem Yl {p q:Prop} (hq:q) (h:Y0q q→p:=by intro zq;(first|((with_reducible apply RS.load1);(iterate 6 exact rfl))|fail);exact zq.1):p:=h ⟨hq⟩
theorem Ym {p q:Prop} (hq:q) (h:Y0q q→p:=by intro zq;(first|(with_reducible apply thenK_n)|fail);exact zq.1):p:=h ⟨hq⟩
theorem Yn {p q:Prop} (hq:q) (h:Y0q q→p:=by intro zq;(first|((with_reducible apply RS.skip);(iterate 2 exact rfl))|fail);exact zq.1):p:=h ⟨hq⟩
theorem Yo {p q:Prop} (hq:q) (h:Y0q q→p:=by intro zq;(first|((with_reducible first|apply RS.nilCheck|apply RS.move|apply RS.fieldAddr);(iterate 3 exact rfl))|fail);exact zq.1):p:=h ⟨hq⟩
theorem Yp {p q:Prop} (hq:q) (h:Y0q q→p:=by intro zq;(first|((with_reducible apply RS.load1B);(iterate 3 exact rfl);exact p.par;exact pn;exact rfl)|fail);exact zq.1):p:=h ⟨hq⟩
theorem Yq {p q:Prop} (hq:q) (h:Y0q q→p:=by intro zq;(first|((with_reducible apply RS.move);(iterate 3 exact rfl))|fail);exact zq.1):p:=h ⟨hq⟩
theorem Yr {p q:Prop} (hq:q) (h:Y0q q→p:=by intro zq;(first|((with_reducible apply RS.lenStr);(iterate 3 exact rfl))|fail);exact zq.1):p:=h ⟨hq⟩
theorem Ys {p q:Prop} (hq:q) (h:Y0q q→p:=by intro zq;(first|((with_reducible apply RS.assign);(iterate 3 exact rfl))|fail);exact zq.1):p:=h ⟨hq⟩
theorem Yt {p q:Prop} (hq:q) (h:Y0q q→p:=by intro zq;(first|((with_reducible apply (RS.callA (g0:=11)));(iterate 3 exact rfl);exact fun B' hB'=>tok_tf hL (q.p.absd q.d hB'))|fail);exact zq.1):p:=h ⟨hq⟩
theorem Yu {p q:Prop} (hq:q) (h:Y0q q→p:=by intro zq;(first|((with_reducible apply RS.cmpC);(iterate 5 exact rfl))|fail);exact zq.1):p:=h ⟨hq⟩
theorem Yv {p q:Prop} (hq:q) (h:Y0q q→p:=by intro zq;(first|((with_reducible apply RS.storeB);(iterate 3 exact rfl);exact p.par;exact pn;exact p.rw;exact Nat.le_of_ble_eq_true rfl;(iterate 3 exact rfl))|fail);exact zq.1):p:=h ⟨hq⟩
theorem Yw {p q:Prop} (hq:q) (h:Y0q q→p:=by intro zq;(first|((with_reducible first|apply W.seq|apply W.block|apply W.ret|apply W.skip|apply thenK_n|apply thenK_r|apply blockK_n|apply blockK_r))|fail);exact zq.1):p:=h ⟨hq⟩
theorem Yx {p q:Prop} (hq:q) (h:Y0q q→p:=by intro zq;(first|((with_reducible first|apply W.seq|apply W.block|apply W.skip|apply thenK_n|apply blockK_n))|fail);exact zq.1):p:=h ⟨hq⟩
theorem Yy {p q:Prop} (hq:q) (h:Y0q q→p:=by intro zq;(first|((with_reducible first|apply W.seq|apply W.ret|apply thenK_n|apply thenK_r))|fail);exact zq.1):p:=h ⟨hq⟩
theorem Yz {p q:Prop} (hq:q) (h:Y0q q→p:=by intro zq;(first|((with_reducible first|apply W.seq|apply W.ret|apply thenK_n))|fail);exact zq.1):p:=h ⟨hq⟩
theorem Y10 {p q:Prop} (hq:q) (h:Y0q q→p:=by intro zq;(first|((with_reducible apply RS.binStr);(iterate 4 exact rfl);exact congrArg (fun b=>some (Value.bool b)) (by assumption))|fail);exact zq.1):p:=h ⟨hq⟩
theorem Y11 {p q:Prop} (hq:q) (h:Y0q q→p:=by intro zq;(first|((with_reducible first|apply RS.move|apply RS.assign|apply RS.not);(iterate 3 exact rfl))|fail);exact zq.1):p:=h ⟨hq⟩
theorem Y12 {p q:Prop} (hq:q) (h:Y0q q→p:=by intro zq;(first|((with_reducible first|apply W.seq|apply thenK_n))|fail);exact zq.1):p:=h ⟨hq⟩
theorem Y13 {p q:Prop} (hq:q) (h:Y0q q→p:=by intro zq;(first|((with_reducible first|apply RS.nilCheck|apply RS.move|apply RS.lenSl|apply RS.fieldAddr);(iterate 3 exact rfl))|fail);exact zq.1):p:=h ⟨hq⟩
theorem Y14 {p q:Prop} (hq:q) (h:Y0q q→p:=by intro zq;(first|((with_reducible first|apply RS.nilCheck|apply RS.move|apply RS.assign|apply RS.not|apply RS.fieldAddr);(iterate 3 exact rfl))|fail);exact zq.1):p:=h ⟨hq⟩
theorem Y15 {p q:Prop} (hq:q) (h:Y0q q→p:=by intro zq;(first|((with_reducible apply RS.load1B);(iterate 3 exact rfl);exact q.p.par;exact q.d _ _ q.p.par;exact rfl)|fail);exact zq.1):p:=h ⟨hq⟩
theorem Y16 {p q:Prop} (hq:q) (h:Y0q q→p:=by intro zq;(first|((with_reducible apply (RS.callA (g0:=10)));(iterate 3 exact rfl);exact fun B' hB'=>ok_tf (p.off ⟨hB'.le,hB'.old⟩ s0.dom) (decide_eq_true hf))|fail);exact zq.1):p:=h ⟨hq⟩
theorem Y17 {p q:Prop} (hq:q) (h:Y0q q→p:=by intro zq;(first|((with_reducible apply (RS.appendNil (i:=k5)));(iterate 6 exact rfl);exact blt_iff.2 (Nat.lt_succ_self k5);exact ((look_cons _ _ _).trans (if_pos rfl));exact Nat.le_of_ble_eq_true rfl;exact Nat.lt_succ_self 0;exact Nat.le_of_ble_eq_true rfl;exact Nat.le_of_ble_eq_true rfl)|fail);exact zq.1):p:=h ⟨hq⟩
theorem Y18 {p q:Prop} (hq:q) (h:Y0q q→p:=by intro zq;(first|((with_reducible apply (RS.callA (g0:=11)));(iterate 3 exact rfl);exact fun B' hB'=>tok_tf hL (p.abs sp hB'))|fail);exact zq.1):p:=h ⟨hq⟩
theorem Y19 {p q:Prop} (hq:q) (h:Y0q q→p:=by intro zq;(first|((with_reducible first|apply W.seq|apply W.block|apply W.exit|apply W.ret|apply W.skip|apply thenK_n|apply thenK_e|apply blockK_n))|fail);exact zq.1):p:=h ⟨hq⟩
theorem Y1a {p q:Prop} (hq:q) (h:Y0q q→p:=by intro zq;(first|((with_reducible first|apply W.seq|apply W.ret|apply W.skip|apply thenK_n))|fail);exact zq.1):p:=h ⟨hq⟩
theorem Y1b {p q:Prop} (hq:q) (h:Y0q q→p:=by intro zq;(first|((with_reducible first|apply W.seq|apply W.exit|apply W.ret|apply thenK_n|apply thenK_e|apply roundN_e))|fail);exact zq.1):p:=h ⟨hq⟩
theorem Y1c {p q:Prop} (hq:q) (h:Y0q q→p:=by intro zq;(first|((with_reducible first|apply W.seq|apply W.block|apply W.ret|apply W.skip|apply thenK_n|apply blockK_n))|fail);exact zq.1):p:=h ⟨hq⟩
theorem Y1d {p q:Prop} (hq:q) (h:Y0q q→p:=by intro zq;(first|((with_reducible apply (RS.callA (g0:=11)));(iterate 3 exact rfl);exact fun B' hB'=>tok_tf hL (p.off ⟨hB'.le,hB'.old⟩ s0.dom))|fail);exact zq.1):p:=h ⟨hq⟩
theorem Y1e {p q:Prop} (hq:q) (h:Y0q q→p:=by intro zq;(first|((with_reducible apply (RS.loadNB (vs:=declC ⟨⟨s',k',[]⟩,nm,dp⟩ none 0)));(iterate 3 exact rfl);exact hdb;exact w.d _ _ hdb;exact Nat.le_of_ble_eq_true rfl;exact rfl)|fail);exact zq.1):p:=h ⟨hq⟩
theorem Y1f {p q:Prop} (hq:q) (h:Y0q q→p:=by intro zq;(first|((with_reducible first|apply RS.move|apply RS.not);(iterate 3 exact rfl))|fail);exact zq.1):p:=h ⟨hq⟩
theorem Y1g {p q:Prop} (hq:q) (h:Y0q q→p:=by intro zq;(first|((with_reducible apply RS.binFit);(iterate 5 exact rfl);omega)|fail);exact zq.1):p:=h ⟨hq⟩
theorem Y1h {p q:Prop} (hq:q) (h:Y0q q→p:=by intro zq;(first|((with_reducible first|apply W.skip|apply thenK_n))|fail);exact zq.1):p:=h ⟨hq⟩
theorem Y1i {p q:Prop} (hq:q) (h:Y0q q→p:=by intro zq;(first|((with_reducible apply RS.field1);(iterate 4 exact rfl))|fail);exact zq.1):p:=h ⟨hq⟩
theorem Y1j {p q:Prop} (hq:q) (h:Y0q q→p:=by intro zq;(first|((with_reducible apply RS.indexAddrS);(iterate 4 exact rfl);(first|exact Int.ofNat_zero.symm|exact (rfl:(1:Int)=((1:Nat):Int)));exact Nat.le_of_ble_eq_true rfl)|fail);exact zq.1):p:=h ⟨hq⟩
theorem Y1k {p q:Prop} (hq:q) (h:Y0q q→p:=by intro zq;(first|((with_reducible apply RS.appendGrow);(iterate 8 exact rfl);exact toksC_length _;(iterate 2 exact rfl);exact Nat.le_of_ble_eq_true rfl;exact rfl;(simp only [List.length_cons] at *;omega);(simp only [List.length_cons] at *;omega))|fail);exact zq.1):p:=h ⟨hq⟩
theorem Y1l {p q:Prop} (hq:q) (h:Y0q q→p:=by intro zq;(first|((with_reducible apply (RS.callA (g0:=64)));(iterate 3 exact rfl);exact fun B' hB'=>hlv B')|fail);exact zq.1):p:=h ⟨hq⟩
theorem Y1m {p q:Prop} (hq:q) (h:Y0q q→p:=by intro zq;(first|((with_reducible first|apply W.seq|apply W.ret|apply W.skip|apply thenK_n|apply thenK_r))|fail);exact zq.1):p:=h ⟨hq⟩
theorem Y1n {p q:Prop} (hq:q) (h:Y0q q→p:=by intro zq;(first|((with_reducible first|apply W.seq|apply W.block|apply thenK_n))|fail);exact zq.1):p:=h ⟨hq⟩
theorem Y1o {p q:Prop} (hq:q) (h:Y0q q→p:=by intro zq;(first|((with_reducible first|apply RS.move|apply RS.assign|apply RS.lenSl|apply RS.fieldAddr);(iterate 3 exact rfl))|fail);exact zq.1):p:=h ⟨hq⟩
theorem Y1p {p q:Prop} (hq:q) (h:Y0q q→p:=by intro zq;(first|((with_reducible apply (RS.callA (g0:=10)));(iterate 3 exact rfl);exact fun B' hB'=>ok_tf (p.off ⟨hB'.le,hB'.old⟩ s0.dom) (decide_eq_false hf))|fail);exact zq.1):p:=h ⟨hq⟩
theorem Y1q {p q:Prop} (hq:q) (h:Y0q q→p:=by intro zq;(first|((with_reducible first|apply W.seq|apply W.skip|apply thenK_n))|fail);exact zq.1):p:=h ⟨hq⟩
theorem Y1r {p q:Prop} (hq:q) (h:Y0q q→p:=by intro zq;(first|((with_reducible first|apply RS.move|apply RS.assign|apply RS.not|apply RS.fieldAddr);(iterate 3 exact rfl))|fail);exact zq.1):p:=h ⟨hq⟩
theorem Y1s {p q:Prop} (hq:q) (h:Y0q q→p:=by intro zq;(first|((with_reducible apply RS.load1B);(iterate 3 exact rfl);exact hm;exact hn;exact hsp)|fail);exact zq.1):p:=h ⟨hq⟩
theorem Y1t {p q:Prop} (hq:q) (h:Y0q q→p:=by intro zq;(first|((with_reducible first|apply W.seq|apply W.ret|apply thenK_n|apply thenK_r|apply blockK_r|apply roundK_r))|fail);exact zq.1):p:=h ⟨hq⟩
theorem Y1u {p q:Prop} (hq:q) (h:Y0q q→p:=by intro zq;(first|((with_reducible first|apply W.seq|apply W.block|apply W.ret|apply thenK_n|apply thenK_r|apply blockK_r))|fail);exact zq.1):p:=h ⟨hq⟩
theorem Y1v {p q:Prop} (hq:q) (h:Y0q q→p:=by intro zq;(first|((with_reducible apply RS.load1B);(iterate 3 exact rfl);exact w.w.s;exact w.w.q.d _ _ w.w.s;exact rfl)|fail);exact zq.1):p:=h ⟨hq⟩
theorem Y1w {p q:Prop} (hq:q) (h:Y0q q→p:=by intro zq;(first|((with_reducible apply WR.step))|fail);exact zq.1):p:=h ⟨hq⟩
theorem Y1x {p q:Prop} (hq:q) (h:Y0q q→p:=by intro zq;(first|((with_reducible apply (RS.storeB (cs':=funcDC d A ps.length c (ptrC b5))));(iterate 3 exact rfl);exact w.r;exact w.w.q.d _ _ w.r;exact hrw;exact Nat.le_of_ble_eq_true rfl;(iterate 3 exact rfl))|fail);exact zq.1):p:=h ⟨hq⟩
theorem Y1y {p q:Prop} (hq:q) (h:Y0q q→p:=by intro zq;(first|((with_reducible first|apply W.seq|apply W.skip|apply thenK_n|apply blockK_n))|fail);exact zq.1):p:=h ⟨hq⟩
theorem Y1z {p q:Prop} (hq:q) (h:Y0q q→p:=by intro zq;(first|((with_reducible apply RS.cmpNat);(iterate 5 exact rfl))|fail);exact zq.1):p:=h ⟨hq⟩
theorem Y20 {p q:Prop} (hq:q) (h:Y0q q→p:=by intro zq;(first|((with_reducible apply RS.binStr);(iterate 5 exact rfl))|fail);exact zq.1):p:=h ⟨hq⟩
theorem Y21 {p q:Prop} (hq:q) (h:Y0q q→p:=by intro zq;(first|((with_reducible apply (RS.callA (g0:=18)));(iterate 3 exact rfl);exact fun B' hB'=>is_tf hL (w.w.q.p.absd w.w.q.d hB') _ his)|fail);exact zq.1):p:=h ⟨hq⟩
theorem Y22 {p q:Prop} (hq:q) (h:Y0q q→p:=by intro zq;(first|((with_reducible apply RS.load1X);(iterate 3 exact rfl);exact hum;exact w.d _ _ hum;exact rfl)|fail);exact zq.1):p:=h ⟨hq⟩
theorem Y23 {p q:Prop} (hq:q) (h:Y0q q→p:=by intro zq;(first|((with_reducible apply RS.appendNil);(iterate 8 exact rfl);exact Nat.le_of_ble_eq_true rfl;exact Nat.le_of_ble_eq_true rfl;exact Nat.le_of_ble_eq_true rfl;exact Nat.le_of_ble_eq_true rfl)|fail);exact zq.1):p:=h ⟨hq⟩
theorem Y24 {p q:Prop} (hq:q) (h:Y0q q→p:=by intro zq;(first|((with_reducible apply blockK_miss);exact rfl)|fail);exact zq.1):p:=h ⟨hq⟩
theorem Y25 {p q:Prop} (hq:q) (h:Y0q q→p:=by intro zq;(first|((with_reducible first|apply RS.move|apply RS.lenSl|apply RS.fieldAddr);(iterate 3 exact rfl))|fail);exact zq.1):p:=h ⟨hq⟩
theorem Y26 {p q:Prop} (hq:q) (h:Y0q q→p:=by intro zq;(first|((with_reducible apply (RS.loadNB (vs:=declC ⟨⟨s',k',[]⟩,nm,dp⟩ none 0++[.pointer none])));(iterate 3 exact rfl);exact hgb;exact w.d _ _ hgb;exact Nat.le_of_ble_eq_true rfl;exact rfl)|fail);exact zq.1):p:=h ⟨hq⟩
theorem Y27 {p q:Prop} (hq:q) (h:Y0q q→p:=by intro zq;(first|((with_reducible first|apply RS.move|apply RS.assign|apply RS.lenSl|apply RS.not|apply RS.fieldAddr);(iterate 3 exact rfl))|fail);exact zq.1):p:=h ⟨hq⟩
theorem Y28 {p q:Prop} (hq:q) (h:Y0q q→p:=by intro zq;(first|((with_reducible apply (RS.callA (g0:=18)));(iterate 3 exact rfl);exact fun B' hB'=>is_tf hL (w.p.absd w.d hB') _ his)|fail);exact zq.1):p:=h ⟨hq⟩
theorem Y29 {p q:Prop} (hq:q) (h:Y0q q→p:=by intro zq;(first|((with_reducible apply (RS.loadNB (vs:=funcDC d A ps.length c (ptrC b5))));(iterate 3 exact rfl);exact w.w.s;exact w.w.q.d _ _ w.w.s;exact Nat.le_of_ble_eq_true rfl;exact rfl)|fail);exact zq.1):p:=h ⟨hq⟩
theorem Y2a {p q:Prop} (hq:q) (h:Y0q q→p:=by intro zq;(first|((with_reducible first|apply W.seq|apply W.block|apply W.ret|apply W.skip|apply thenK_n|apply thenK_r|apply blockK_r))|fail);exact zq.1):p:=h ⟨hq⟩
theorem Y2b {p q:Prop} (hq:q) (h:Y0q q→p:=by intro zq;(first|((with_reducible first|apply W.seq|apply W.exit|apply W.ret|apply W.skip|apply thenK_n|apply thenK_e|apply roundN_e))|fail);exact zq.1):p:=h ⟨hq⟩
theorem Y2c {p q:Prop} (hq:q) (h:Y0q q→p:=by intro zq;(first|((with_reducible apply RS.callP);(iterate 3 exact rfl);first|exact fun H=>(digit_tf _ H);exact Nm_free (by simp)|exact fun H=>(letter_tf _ H);exact Nm_free (by simp))|fail);exact zq.1):p:=h ⟨hq⟩
theorem Y2d {p q:Prop} (hq:q) (h:Y0q q→p:=by intro zq;(first|((with_reducible apply RS.extract);(iterate 4 exact rfl))|fail);exact zq.1):p:=h ⟨hq⟩
theorem Y2e {p q:Prop} (hq:q) (h:Y0q q→p:=by intro zq;(first|((with_reducible apply RS.indexChr);(iterate 5 exact rfl);omega)|fail);exact zq.1):p:=h ⟨hq⟩
theorem Y2f {p q:Prop} (hq:q) (h:Y0q q→p:=by intro zq;(first|((with_reducible apply (RS.callR (g0:=11) true [] (some [])));(iterate 3 exact rfl);exact fun H hH=>tok_tf hL (q.p.sees q.d hH);exact Nm_free (by simp [tokC]))|fail);exact zq.1):p:=h ⟨hq⟩
theorem Y2g {p q:Prop} (hq:q) (h:Y0q q→p:=by intro zq;(first|((with_reducible apply RS.indexSg);(iterate 4 exact rfl);omega)|fail);exact zq.1):p:=h ⟨hq⟩
theorem Y2h {p q:Prop} (hq:q) (h:Y0q q→p:=by intro zq;(first|((with_reducible first|apply RS.move|apply RS.fieldAddr);(iterate 3 exact rfl))|fail);exact zq.1):p:=h ⟨hq⟩
theorem Y2i {p q:Prop} (hq:q) (h:Y0q q→p:=by intro zq;(first|((with_reducible first|apply W.seq|apply W.exit|apply W.ret|apply thenK_n|apply thenK_e|apply roundK_e))|fail);exact zq.1):p:=h ⟨hq⟩
theorem Y2j {p q:Prop} (hq:q) (h:Y0q q→p:=by intro zq;(first|((with_reducible apply (W.rounds 5)))|fail);exact zq.1):p:=h ⟨hq⟩
theorem Y2k {p q:Prop} (hq:q) (h:Y0q q→p:=by intro zq;(first|((with_reducible apply RS.load1B);(iterate 3 exact rfl);first|exact hdb;exact w.d _ _ hdb;exact rfl|exact hum;exact w.d _ _ hum;exact rfl)|fail);exact zq.1):p:=h ⟨hq⟩
theorem Y2l {p q:Prop} (hq:q) (h:Y0q q→p:=by intro zq;(first|((with_reducible apply (RS.callA (g0:=10)));(iterate 3 exact rfl);exact fun B' hB'=>ok_tf (w.w.q.p.absd w.w.q.d hB') (decide_eq_true hf))|fail);exact zq.1):p:=h ⟨hq⟩
theorem Y2m {p q:Prop} (hq:q) (h:Y0q q→p:=by intro zq;(first|((with_reducible apply (RS.callA (g0:=10)));(iterate 3 exact rfl);exact fun B' hB'=>ok_tf (w.q.p.absd w.q.d hB') (decide_eq_true hf3))|fail);exact zq.1):p:=h ⟨hq⟩
theorem Y2n {p q:Prop} (hq:q) (h:Y0q q→p:=by intro zq;(first|((with_reducible apply roundR_e))|fail);exact zq.1):p:=h ⟨hq⟩
theorem Y2o {p q:Prop} (hq:q) (h:Y0q q→p:=by intro zq;(first|((with_reducible apply (RS.callA (g0:=18)));(iterate 3 exact rfl);exact fun B' hB'=>is_tf hL (p.off ⟨hB'.le,hB'.old⟩ s0.dom) s his)|fail);exact zq.1):p:=h ⟨hq⟩
theorem Y2p {p q:Prop} (hq:q) (h:Y0q q→p:=by intro zq;(first|((with_reducible first|apply RS.move|apply RS.assign|apply RS.box);(iterate 3 exact rfl))|fail);exact zq.1):p:=h ⟨hq⟩
theorem Y2q {p q:Prop} (hq:q) (h:Y0q q→p:=by intro zq;(first|((with_reducible apply (RS.callA (g0:=10)));(iterate 3 exact rfl);exact fun B' hB'=>ok_tf (q.p.absd q.d hB') (decide_eq_false hf))|fail);exact zq.1):p:=h ⟨hq⟩
theorem Y2r {p q:Prop} (hq:q) (h:Y0q q→p:=by intro zq;(first|((with_reducible apply (RS.callA (g0:=10)));(iterate 3 exact rfl);exact fun B' hB'=>ok_tf (q.p.absd q.d hB') (decide_eq_true hf2))|fail);exact zq.1):p:=h ⟨hq⟩
theorem Y2s {p q:Prop} (hq:q) (h:Y0q q→p:=by intro zq;(first|((with_reducible apply (RS.callA (g0:=10)));(iterate 3 exact rfl);exact fun B' hB'=>ok_tf (q.p.absd q.d hB') (decide_eq_true hf))|fail);exact zq.1):p:=h ⟨hq⟩
theorem Y2t {p q:Prop} (hq:q) (h:Y0q q→p:=by intro zq;(first|((with_reducible apply (RS.callA (g0:=10)));(iterate 3 exact rfl);exact fun B' hB'=>ok_tf (w.p.absd w.d hB') (decide_eq_true hf))|fail);exact zq.1):p:=h ⟨hq⟩
theorem Y2u {p q:Prop} (hq:q) (h:Y0q q→p:=by intro zq;(first|((with_reducible apply (RS.callA (g0:=16)));(iterate 3 exact rfl);exact fun B' hB'=>typed_tf hL (w.w.q.p.absd w.w.q.d hB') ht)|fail);exact zq.1):p:=h ⟨hq⟩
theorem Y2v {p q:Prop} (hq:q) (h:Y0q q→p:=by intro zq;(first|((with_reducible first|apply RS.nilCheck|apply RS.move|apply RS.assign|apply RS.lenSl|apply RS.fieldAddr);(iterate 3 exact rfl))|fail);exact zq.1):p:=h ⟨hq⟩
theorem Y2w {p q:Prop} (hq:q) (h:Y0q q→p:=by intro zq;(first|((with_reducible apply (RS.callA (g0:=10)));(iterate 3 exact rfl);exact fun B' hB'=>ok_tf (p.abs sp hB') (decide_eq_true hf))|fail);exact zq.1):p:=h ⟨hq⟩
theorem Y2x {p q:Prop} (hq:q) (h:Y0q q→p:=by intro zq;(first|((with_reducible apply (RS.callA (g0:=24)));(iterate 3 exact rfl);exact fun B' hB'=>takeN_tf hL (w.q.p.absd w.q.d hB') _ i1)|fail);exact zq.1):p:=h ⟨hq⟩
theorem Y2y {p q:Prop} (hq:q) (h:Y0q q→p:=by intro zq;(first|((with_reducible apply (RS.callA (g0:=18)));(iterate 3 exact rfl);exact fun B' hB'=>is_tf hL (q.p.absd q.d hB') _ his)|fail);exact zq.1):p:=h ⟨hq⟩
theorem Y2z {p q:Prop} (hq:q) (h:Y0q q→p:=by intro zq;(first|((with_reducible apply (RS.callA (g0:=16)));(iterate 3 exact rfl);exact fun B' hB'=>typed_tf hL (w.p.absd w.d hB') ht)|fail);exact zq.1):p:=h ⟨hq⟩
theorem Y30 {p q:Prop} (hq:q) (h:Y0q q→p:=by intro zq;(first|((with_reducible apply RS.callP);(iterate 3 exact rfl);exact fun H=>(hasPrefix_tf _ _ H);exact Nm_free (by simp))|fail);exact zq.1):p:=h ⟨hq⟩
theorem Y31 {p q:Prop} (hq:q) (h:Y0q q→p:=by intro zq;(first|((with_reducible apply (RS.callA (g0:=11)));(iterate 3 exact rfl);exact fun B' hB'=>tok_tf hL (w.p.absd w.d hB'))|fail);exact zq.1):p:=h ⟨hq⟩
theorem Y32 {p q:Prop} (hq:q) (h:Y0q q→p:=by intro zq;(first|((with_reducible first|apply RS.move|apply RS.lenSl);(iterate 3 exact rfl))|fail);exact zq.1):p:=h ⟨hq⟩
theorem Y33 {p q:Prop} (hq:q) (h:Y0q q→p:=by intro zq;(first|((with_reducible apply (RS.callA (g0:=10)));(iterate 3 exact rfl);exact fun B' hB'=>ok_tf (p.abs sp hB') rfl)|fail);exact zq.1):p:=h ⟨hq⟩
theorem Y34 {p q:Prop} (hq:q) (h:Y0q q→p:=by intro zq;(first|((with_reducible first|apply W.seq|apply W.exit|apply thenK_n|apply thenK_e|apply blockK_n|apply roundN_e))|fail);exact zq.1):p:=h ⟨hq⟩
theorem Y35 {p q:Prop} (hq:q) (h:Y0q q→p:=by intro zq;(first|((with_reducible first|apply RS.move|apply RS.lenSl|apply RS.not|apply RS.fieldAddr);(iterate 3 exact rfl))|fail);exact zq.1):p:=h ⟨hq⟩
theorem Y36 {p q:Prop} (hq:q) (h:Y0q q→p:=by intro zq;(first|((with_reducible first|apply W.seq|apply W.exit|apply W.ret|apply thenK_n|apply thenK_e|apply blockK_n))|fail);exact zq.1):p:=h ⟨hq⟩
theorem Y37 {p q:Prop} (hq:q) (h:Y0q q→p:=by intro zq;(first|((with_reducible apply RS.load1X);(iterate 3 exact rfl);exact w.w.s;exact w.w.q.d _ _ w.w.s;exact rfl)|fail);exact zq.1):p:=h ⟨hq⟩
theorem Y38 {p q:Prop} (hq:q) (h:Y0q q→p:=by intro zq;(first|((with_reducible first|apply W.seq|apply W.block|apply W.exit|apply W.ret|apply thenK_n|apply thenK_e))|fail);exact zq.1):p:=h ⟨hq⟩
theorem Y39 {p q:Prop} (hq:q) (h:Y0q q→p:=by intro zq;(first|((with_reducible apply RS.load1At);(iterate 5 exact rfl);exact hsv)|fail);exact zq.1):p:=h ⟨hq⟩
theorem Y3a {p q:Prop} (hq:q) (h:Y0q q→p:=by intro zq;(first|((with_reducible first|apply RS.move|apply RS.assign|apply RS.not|apply RS.box);(iterate 3 exact rfl))|fail);exact zq.1):p:=h ⟨hq⟩
theorem Y3b {p q:Prop} (hq:q) (h:Y0q q→p:=by intro zq;(first|((with_reducible apply RS.indexAddrS);(iterate 5 exact rfl);omega)|fail);exact zq.1):p:=h ⟨hq⟩
theorem Y3c {p q:Prop} (hq:q) (h:Y0q q→p:=by intro zq;(first|((with_reducible apply roundR_n))|fail);exact zq.1):p:=h ⟨hq⟩
theorem mixed:Tryd.prog.follows .mixedOrders=true:=by kernel_rfl
instance:TyU Tryd.prog 3 (.int .i64):=⟨by kernel_rfl,by kernel_rfl⟩
instance:TyOne Tryd.prog 3:=⟨by kernel_rfl⟩
instance:TySz Tryd.prog 3 1:=⟨by kernel_rfl,by kernel_rfl⟩
instance:TyOne Tryd.prog 4:=⟨by kernel_rfl⟩
instance:TySz Tryd.prog 4 1:=⟨by kernel_rfl,by kernel_rfl⟩
instance:TyU Tryd.prog 5 (.int .u8):=⟨by kernel_rfl,by kernel_rfl⟩
instance:TyOne Tryd.prog 5:=⟨by kernel_rfl⟩
instance:TySz Tryd.prog 5 1:=⟨by kernel_rfl,by kernel_rfl⟩
instance:TyU Tryd.prog 9 .string:=⟨by kernel_rfl,by kernel_rfl⟩
instance:TyOne Tryd.prog 9:=⟨by kernel_rfl⟩
instance:TySz Tryd.prog 9 1:=⟨by kernel_rfl,by kernel_rfl⟩
instance:TyBy Tryd.prog 9 16:=⟨by kernel_rfl⟩
instance:TyZ Tryd.prog 9 (.string ⟨#[]⟩):=⟨by kernel_rfl,by kernel_rfl,by kernel_rfl⟩
instance:TyOne Tryd.prog 23:=⟨by kernel_rfl⟩
instance:TyU Tryd.prog 25 (.pointer 37):=⟨by kernel_rfl,by kernel_rfl⟩
instance:TyAgg Tryd.prog 27 2:=⟨⟨by kernel_rfl,by kernel_rfl⟩⟩
instance:TySz Tryd.prog 27 2:=⟨by kernel_rfl,by kernel_rfl⟩
instance:TyZ Tryd.prog 27 (.agg ⟨[(.int .i64 0),(.int .i64 0)]⟩):=⟨by kernel_rfl,by kernel_rfl,by kernel_rfl⟩
instance:TyS Tryd.prog 27 [(.int .i64 0),(.int .i64 0)] [(0,1),(1,1)]:=⟨by kernel_rfl,by kernel_rfl,by kernel_rfl⟩
instance:FOff Tryd.prog 27 0 0:=⟨by kernel_rfl⟩
instance:TyU Tryd.prog 31 (.slice 9):=⟨by kernel_rfl,by kernel_rfl⟩
instance:TyU Tryd.prog 32 (.slice 3):=⟨by kernel_rfl,by kernel_rfl⟩
instance:TyOne Tryd.prog 32:=⟨by kernel_rfl⟩
instance:TySz Tryd.prog 32 1:=⟨by kernel_rfl,by kernel_rfl⟩
instance:TyU Tryd.prog 34 (.slice 85):=⟨by kernel_rfl,by kernel_rfl⟩
instance:TyOne Tryd.prog 34:=⟨by kernel_rfl⟩
instance:TySz Tryd.prog 34 1:=⟨by kernel_rfl,by kernel_rfl⟩
instance:TyU Tryd.prog 35 (.slice 53):=⟨by kernel_rfl,by kernel_rfl⟩
instance:TyOne Tryd.prog 35:=⟨by kernel_rfl⟩
instance:TySz Tryd.prog 35 1:=⟨by kernel_rfl,by kernel_rfl⟩
instance:TySz Tryd.prog 37 3:=⟨by kernel_rfl,by kernel_rfl⟩
instance:TyS Tryd.prog 37 [(.slice none 0 0),(.slice none 0 0),(.slice none 0 0)] [(0,1),(1,1),(2,1)]:=⟨by kernel_rfl,by kernel_rfl,by kernel_rfl⟩
instance:FOff Tryd.prog 37 1 1:=⟨by kernel_rfl⟩
instance:FOff Tryd.prog 37 2 2:=⟨by kernel_rfl⟩
instance:TyAgg Tryd.prog 39 5:=⟨⟨by kernel_rfl,by kernel_rfl⟩⟩
instance:TySz Tryd.prog 39 5:=⟨by kernel_rfl,by kernel_rfl⟩
instance:TyZ Tryd.prog 39 (.agg ⟨[(.bool false),(.string ⟨#[]⟩),(.bool false),(.string ⟨#[]⟩),(.int .i64 0)]⟩):=⟨by kernel_rfl,by kernel_rfl,by kernel_rfl⟩
instance:TyS Tryd.prog 39 [(.bool false),(.string ⟨#[]⟩),(.bool false),(.string ⟨#[]⟩),(.int .i64 0)] [(0,1),(1,1),(2,1),(3,1),(4,1)]:=⟨by kernel_rfl,by kernel_rfl,by kernel_rfl⟩
instance:FOff Tryd.prog 39 0 0:=⟨by kernel_rfl⟩
instance:FOff Tryd.prog 39 1 1:=⟨by kernel_rfl⟩
instance:FOff Tryd.prog 39 2 2:=⟨by kernel_rfl⟩
instance:TyAgg Tryd.prog 42 9:=⟨⟨by kernel_rfl,by kernel_rfl⟩⟩
instance:TyS Tryd.prog 42 [(.bool false),(.string ⟨#[]⟩),(.bool false),(.string ⟨#[]⟩),(.int .i64 0),(.int .i64 0),(.slice none 0 0),(.bool false),(.slice none 0 0)] [(0,5),(5,1),(6,1),(7,1),(8,1)]:=⟨by kernel_rfl,by kernel_rfl,by kernel_rfl⟩
instance:FOff Tryd.prog 42 2 6:=⟨by kernel_rfl⟩
instance:FOff Tryd.prog 42 3 7:=⟨by kernel_rfl⟩
instance:TyAgg Tryd.prog 44 11:=⟨⟨by kernel_rfl,by kernel_rfl⟩⟩
instance:TySz Tryd.prog 44 11:=⟨by kernel_rfl,by kernel_rfl⟩
instance:TyBy Tryd.prog 44 144:=⟨by kernel_rfl⟩
instance:TyZ Tryd.prog 44 (.agg ⟨[(.bool false),(.string ⟨#[]⟩),(.bool false),(.string ⟨#[]⟩),(.int .i64 0),(.int .i64 0),(.slice none 0 0),(.bool false),(.slice none 0 0),(.string ⟨#[]⟩),(.int .i64 0)]⟩):=⟨by kernel_rfl,by kernel_rfl,by kernel_rfl⟩
instance:TyS Tryd.prog 44 [(.bool false),(.string ⟨#[]⟩),(.bool false),(.string ⟨#[]⟩),(.int .i64 0),(.int .i64 0),(.slice none 0 0),(.bool false),(.slice none 0 0),(.string ⟨#[]⟩),(.int .i64 0)] [(0,9),(9,1),(10,1)]:=⟨by kernel_rfl,by kernel_rfl,by kernel_rfl⟩
instance:FOff Tryd.prog 44 0 0:=⟨by kernel_rfl⟩
instance:FOff Tryd.prog 44 1 9:=⟨by kernel_rfl⟩
instance:FOff Tryd.prog 44 2 10:=⟨by kernel_rfl⟩
instance:TyU Tryd.prog 45 (.pointer 59):=⟨by kernel_rfl,by kernel_rfl⟩
instance:TyOne Tryd.prog 45:=⟨by kernel_rfl⟩
instance:TySz Tryd.prog 45 1:=⟨by kernel_rfl,by kernel_rfl⟩
instance:TyZ Tryd.prog 45 (.pointer none):=⟨by kernel_rfl,by kernel_rfl,by kernel_rfl⟩
instance:TyU Tryd.prog 46 (.slice 51):=⟨by kernel_rfl,by kernel_rfl⟩
instance:TyOne Tryd.prog 46:=⟨by kernel_rfl⟩
instance:TySz Tryd.prog 46 1:=⟨by kernel_rfl,by kernel_rfl⟩
instance:TySz Tryd.prog 49 17:=⟨by kernel_rfl,by kernel_rfl⟩
instance:TyS Tryd.prog 49 [(.int .i64 0),(.int .i64 0),(.bool false),(.string ⟨#[]⟩),(.bool false),(.string ⟨#[]⟩),(.int .i64 0),(.int .i64 0),(.slice none 0 0),(.bool false),(.slice none 0 0),(.string ⟨#[]⟩),(.int .i64 0),(.pointer none),(.pointer none),(.slice none 0 0),(.slice none 0 0)] [(0,1),(1,1),(2,11),(13,1),(14,1),(15,1),(16,1)]:=⟨by kernel_rfl,by kernel_rfl,by kernel_rfl⟩
instance:FOff Tryd.prog 49 0 0:=⟨by kernel_rfl⟩
instance:FOff Tryd.prog 49 3 13:=⟨by kernel_rfl⟩
instance:FOff Tryd.prog 49 5 15:=⟨by kernel_rfl⟩
instance:TyU Tryd.prog 50 (.slice 44):=⟨by kernel_rfl,by kernel_rfl⟩
instance:TyOne Tryd.prog 50:=⟨by kernel_rfl⟩
instance:TySz Tryd.prog 50 1:=⟨by kernel_rfl,by kernel_rfl⟩
instance:TyOne Tryd.prog 51:=⟨by kernel_rfl⟩
instance:TySz Tryd.prog 51 1:=⟨by kernel_rfl,by kernel_rfl⟩
instance:TyBy Tryd.prog 51 8:=⟨by kernel_rfl⟩
instance:TyZ Tryd.prog 51 (.pointer none):=⟨by kernel_rfl,by kernel_rfl,by kernel_rfl⟩
instance:TyAgg Tryd.prog 53 13:=⟨⟨by kernel_rfl,by kernel_rfl⟩⟩
instance:TySz Tryd.prog 53 13:=⟨by kernel_rfl,by kernel_rfl⟩
instance:TyBy Tryd.prog 53 176:=⟨by kernel_rfl⟩
instance:TyZ Tryd.prog 53 (.agg ⟨[(.bool false),(.string ⟨#[]⟩),(.bool false),(.string ⟨#[]⟩),(.int .i64 0),(.int .i64 0),(.slice none 0 0),(.bool false),(.slice none 0 0),(.string ⟨#[]⟩),(.int .i64 0),(.slice none 0 0),(.pointer none)]⟩):=⟨by kernel_rfl,by kernel_rfl,by kernel_rfl⟩
instance:TyS Tryd.prog 53 [(.bool false),(.string ⟨#[]⟩),(.bool false),(.string ⟨#[]⟩),(.int .i64 0),(.int .i64 0),(.slice none 0 0),(.bool false),(.slice none 0 0),(.string ⟨#[]⟩),(.int .i64 0),(.slice none 0 0),(.pointer none)] [(0,9),(9,1),(10,1),(11,1),(12,1)]:=⟨by kernel_rfl,by kernel_rfl,by kernel_rfl⟩
instance:FOff Tryd.prog 53 1 9:=⟨by kernel_rfl⟩
instance:FOff Tryd.prog 53 3 11:=⟨by kernel_rfl⟩
instance:FOff Tryd.prog 53 4 12:=⟨by kernel_rfl⟩
instance:TyU Tryd.prog 54 (.int .u64):=⟨by kernel_rfl,by kernel_rfl⟩
instance:TyOne Tryd.prog 54:=⟨by kernel_rfl⟩
instance:TySz Tryd.prog 54 1:=⟨by kernel_rfl,by kernel_rfl⟩
instance:TyAgg Tryd.prog 56 6:=⟨⟨by kernel_rfl,by kernel_rfl⟩⟩
instance:TySz Tryd.prog 56 6:=⟨by kernel_rfl,by kernel_rfl⟩
instance:TyBy Tryd.prog 56 48:=⟨by kernel_rfl⟩
instance:TyZ Tryd.prog 56 (.agg ⟨[(.int .i64 0),(.string ⟨#[]⟩),(.int .i64 0),(.int .u64 0),(.bool false),(.bool false)]⟩):=⟨by kernel_rfl,by kernel_rfl,by kernel_rfl⟩
instance:TyS Tryd.prog 56 [(.int .i64 0),(.string ⟨#[]⟩),(.int .i64 0),(.int .u64 0),(.bool false),(.bool false)] [(0,1),(1,1),(2,1),(3,1),(4,1),(5,1)]:=⟨by kernel_rfl,by kernel_rfl,by kernel_rfl⟩
instance:FOff Tryd.prog 56 0 0:=⟨by kernel_rfl⟩
instance:FOff Tryd.prog 56 1 1:=⟨by kernel_rfl⟩
instance:FOff Tryd.prog 56 2 2:=⟨by kernel_rfl⟩
instance:FOff Tryd.prog 56 3 3:=⟨by kernel_rfl⟩
instance:FOff Tryd.prog 56 4 4:=⟨by kernel_rfl⟩
instance:FOff Tryd.prog 56 5 5:=⟨by kernel_rfl⟩
instance:TyU Tryd.prog 57 (.slice 45):=⟨by kernel_rfl,by kernel_rfl⟩
instance:TyOne Tryd.prog 57:=⟨by kernel_rfl⟩
instance:TySz Tryd.prog 59 19:=⟨by kernel_rfl,by kernel_rfl⟩
instance:TyS Tryd.prog 59 [(.int .i64 0),(.int .i64 0),(.string ⟨#[]⟩),(.int .i64 0),(.string ⟨#[]⟩),(.int .i64 0),(.int .u64 0),(.bool false),(.bool false),(.bool false),(.string ⟨#[]⟩),(.bool false),(.string ⟨#[]⟩),(.int .i64 0),(.int .i64 0),(.slice none 0 0),(.bool false),(.slice none 0 0),(.slice none 0 0)] [(0,1),(1,1),(2,1),(3,6),(9,9),(18,1)]:=⟨by kernel_rfl,by kernel_rfl,by kernel_rfl⟩
instance:FOff Tryd.prog 59 0 0:=⟨by kernel_rfl⟩
instance:FOff Tryd.prog 59 2 2:=⟨by kernel_rfl⟩
instance:FOff Tryd.prog 59 3 3:=⟨by kernel_rfl⟩
instance:FOff Tryd.prog 59 5 18:=⟨by kernel_rfl⟩
instance:TyU Tryd.prog 61 (.slice 56):=⟨by kernel_rfl,by kernel_rfl⟩
instance:TyOne Tryd.prog 61:=⟨by kernel_rfl⟩
instance:TySz Tryd.prog 66 6:=⟨by kernel_rfl,by kernel_rfl⟩
instance:TyS Tryd.prog 66 [(.slice none 0 0),(.int .i64 0),(.int .i64 0),(.int .i64 0),(.int .i64 0),(.int .i64 0)] [(0,1),(1,1),(2,1),(3,1),(4,2)]:=⟨by kernel_rfl,by kernel_rfl,by kernel_rfl⟩
instance:FOff Tryd.prog 66 0 0:=⟨by kernel_rfl⟩
instance:FOff Tryd.prog 66 1 1:=⟨by kernel_rfl⟩
instance:FOff Tryd.prog 66 2 2:=⟨by kernel_rfl⟩
instance:FOff Tryd.prog 66 3 3:=⟨by kernel_rfl⟩
instance:FOff Tryd.prog 66 4 4:=⟨by kernel_rfl⟩
instance:TyAgg Tryd.prog 85 12:=⟨⟨by kernel_rfl,by kernel_rfl⟩⟩
instance:TySz Tryd.prog 85 12:=⟨by kernel_rfl,by kernel_rfl⟩
instance:TyBy Tryd.prog 85 152:=⟨by kernel_rfl⟩
instance:TyZ Tryd.prog 85 (.agg ⟨[(.bool false),(.string ⟨#[]⟩),(.bool false),(.string ⟨#[]⟩),(.int .i64 0),(.int .i64 0),(.slice none 0 0),(.bool false),(.slice none 0 0),(.string ⟨#[]⟩),(.int .i64 0),(.pointer none)]⟩):=⟨by kernel_rfl,by kernel_rfl,by kernel_rfl⟩
instance:TyS Tryd.prog 85 [(.bool false),(.string ⟨#[]⟩),(.bool false),(.string ⟨#[]⟩),(.int .i64 0),(.int .i64 0),(.slice none 0 0),(.bool false),(.slice none 0 0),(.string ⟨#[]⟩),(.int .i64 0),(.pointer none)] [(0,11),(11,1)]:=⟨by kernel_rfl,by kernel_rfl,by kernel_rfl⟩
instance:TyU Tryd.prog 103 (.array 256 5):=⟨by kernel_rfl,by kernel_rfl⟩
instance:GF Tryd.prog 6:=⟨by kernel_rfl⟩
instance:GF Tryd.prog 7:=⟨by kernel_rfl⟩
instance:GF Tryd.prog 8:=⟨by kernel_rfl⟩
instance:GF Tryd.prog 9:=⟨by kernel_rfl⟩
instance:GF Tryd.prog 10:=⟨by kernel_rfl⟩
instance:GF Tryd.prog 11:=⟨by kernel_rfl⟩
instance:GF Tryd.prog 12:=⟨by kernel_rfl⟩
instance:GF Tryd.prog 13:=⟨by kernel_rfl⟩
instance:GF Tryd.prog 14:=⟨by kernel_rfl⟩
instance:GF Tryd.prog 15:=⟨by kernel_rfl⟩
instance:GF Tryd.prog 16:=⟨by kernel_rfl⟩
instance:GF Tryd.prog 17:=⟨by kernel_rfl⟩
instance:GF Tryd.prog 18:=⟨by kernel_rfl⟩
instance:GF Tryd.prog 20:=⟨by kernel_rfl⟩
instance:GF Tryd.prog 21:=⟨by kernel_rfl⟩
instance:GF Tryd.prog 22:=⟨by kernel_rfl⟩
instance:GF Tryd.prog 23:=⟨by kernel_rfl⟩
instance:GF Tryd.prog 24:=⟨by kernel_rfl⟩
instance:GF Tryd.prog 26:=⟨by kernel_rfl⟩
instance:GF Tryd.prog 27:=⟨by kernel_rfl⟩
instance:GF Tryd.prog 28:=⟨by kernel_rfl⟩
instance:GF Tryd.prog 29:=⟨by kernel_rfl⟩
instance:GF Tryd.prog 30:=⟨by kernel_rfl⟩
instance:GF Tryd.prog 31:=⟨by kernel_rfl⟩
instance:GF Tryd.prog 32:=⟨by kernel_rfl⟩
instance:GF Tryd.prog 33:=⟨by kernel_rfl⟩
instance:GF Tryd.prog 34:=⟨by kernel_rfl⟩
instance:GF Tryd.prog 35:=⟨by kernel_rfl⟩
instance:GF Tryd.prog 36:=⟨by kernel_rfl⟩
instance:GF Tryd.prog 37:=⟨by kernel_rfl⟩
instance:GF Tryd.prog 38:=⟨by kernel_rfl⟩
instance:GF Tryd.prog 40:=⟨by kernel_rfl⟩
instance:GF Tryd.prog 41:=⟨by kernel_rfl⟩
instance:GF Tryd.prog 42:=⟨by kernel_rfl⟩
instance:GF Tryd.prog 43:=⟨by kernel_rfl⟩
instance:GF Tryd.prog 44:=⟨by kernel_rfl⟩
instance:GF Tryd.prog 45:=⟨by kernel_rfl⟩
instance:GF Tryd.prog 48:=⟨by kernel_rfl⟩
instance:GF Tryd.prog 51:=⟨by kernel_rfl⟩
instance:GF Tryd.prog 54:=⟨by kernel_rfl⟩
instance:GF Tryd.prog 56:=⟨by kernel_rfl⟩
instance:GF Tryd.prog 57:=⟨by kernel_rfl⟩
instance:GF Tryd.prog 63:=⟨by kernel_rfl⟩
instance:GF Tryd.prog 64:=⟨by kernel_rfl⟩
instance:GF Tryd.prog 69:=⟨by kernel_rfl⟩
instance:GF Tryd.prog 70:=⟨by kernel_rfl⟩
end Go.Proofs.YtbmmchaaiakanaaDoor
namespace Go.Proofs.YtbmmchaaiakanaaDoor
def letterI (c:Int):Bool:=(decide (97≤c) && decide (c≤122)) || (decide (65≤c) && decide (c≤90)) || c == 95
def digitI (c:Int):Bool:=decide (48≤c) && decide (c≤57)
def wordyI (c:Int):Bool:=letterI c || digitI c
def blankI (c:Int):Bool:=c == 32 || c == 9 || c == 10 || c == 13
def valueI (c:Int):Int:=if digitI c then c - 48 else if decide (97≤c) && decide (c≤102) then c - 87 else if decide (65≤c) && decide (c≤70) then c - 55 else 99
def ic (c:UInt8):Int:=(c.toNat:Int)
def blankF:Nat→List UInt8→Nat × Bool
 | 0,_=>(0,true)
 | n+1,l =>
  match l with
  | []=>(0,true)
  | c::r =>
   if blankI (ic c) then (1+(blankF n r).1,(blankF n r).2)
   else if Lib.hasPrefix (c::r) [47,47] then
    (if Lib.indexByte (c :: r) 10 < 0 then ((c :: r).length, true)
     else ((Lib.indexByte (c::r) 10).toNat+(blankF n ((c::r).drop (Lib.indexByte (c::r) 10).toNat)).1,(blankF n ((c::r).drop (Lib.indexByte (c::r) 10).toNat)).2))
   else if Lib.hasPrefix (c::r) [47,42] then
    (if Lib.index ((c :: r).drop 2) [42, 47] < 0 then (0, false)
     else ((Lib.index ((c :: r).drop 2) [42, 47]).toNat + 4 + (blankF n ((c :: r).drop ((Lib.index ((c :: r).drop 2) [42, 47]).toNat + 4))).1,
           (blankF n ((c::r).drop ((Lib.index ((c::r).drop 2) [42,47]).toNat+4))).2))
   else (0,true)
theorem hp2 (c a b:UInt8) (r:List UInt8):Lib.hasPrefix (c::r) [a,b]=(a == c && (match r with|[]=>false|d::_=>b == d)):=by
 unfold Lib.hasPrefix;cases r<;>simp [List.isPrefixOf]
def blankG (l:List UInt8):Nat × Bool:=blankF l.length l
open Go.AH
attribute [local irreducible] W RS
theorem digit_tf (c:Int) (h:Hp):TF Tryd.prog 31 ⟨[.int .u8 c]⟩ h (.bool (digitI c)) h:=by
 refine TF.still (fn:=Tryd.f31) (c:=(Tryd.f31.body.getD .skip)) Tryd.func31 (by kernel_rfl) Tryd.ntmps31 (by kernel_rfl) (by simp) ?_
 conv=>arg 2;whnf
 repeat (first|refine Y4 ?_|refine Yu ?_|refine Y0 ?_|refine Y12 ?_|refine Y1 ?_)
 refine RS.splitG rfl rfl (fun h1=>?_) (fun h1=>?_)
 all_goals repeat (first|refine Y4 ?_|refine Yb ?_|refine Yd ?_|refine Yu ?_|refine Yn ?_|refine Y0 ?_|(with_reducible first|apply W.ret|apply thenK_n))
 all_goals refine endsK_ret _ (.cons (.tmp rfl) .nil) ⟨rfl,?_⟩
 all_goals simp only [resultOf,Value.bool.injEq,digitI]
 all_goals (rw [Bool.eq_iff_iff];simp at *;try omega)
theorem letter_tf (c:Int) (h:Hp):TF Tryd.prog 30 ⟨[.int .u8 c]⟩ h (.bool (letterI c)) h:=by
 refine TF.still (fn:=Tryd.f30) (c:=(Tryd.f30.body.getD .skip)) Tryd.func30 (by kernel_rfl) Tryd.ntmps30 (by kernel_rfl) (by simp) ?_
 conv=>arg 2;whnf
 repeat (first|refine Y4 ?_|refine Yu ?_|refine Y0 ?_|refine Y12 ?_|refine Y1 ?_)
 repeat' ((refine RS.splitG rfl rfl (fun h1=>?_) (fun h1=>?_))<;>repeat (first|refine Y4 ?_|refine Yb ?_|refine Yd ?_|refine Yu ?_|refine Yn ?_|refine Y0 ?_|(with_reducible first|apply W.ret|apply thenK_n)))
 all_goals refine endsK_ret _ (.cons (.tmp rfl) .nil) ⟨rfl,?_⟩
 all_goals simp only [resultOf,Value.bool.injEq,letterI]
 all_goals (rw [Bool.eq_iff_iff];simp at *;try omega)
theorem wrap_u8 {n:Int} (h0:0≤n) (h1:n≤255):IntKind.u8.wrap n=n:=by simp only [IntKind.wrap,IntKind.signed,IntKind.bits];simp;omega
theorem wrap_u64 {n:Int} (h0:0≤n) (h1:n≤18446744073709551615):IntKind.u64.wrap n=n:=by simp only [IntKind.wrap,IntKind.signed,IntKind.bits];simp;omega
theorem value_tf (c:Int) (h0:0≤c) (h1:c≤255) (h:Hp):TF Tryd.prog 48 ⟨[.int .u8 c]⟩ h (.int .u64 (valueI c)) h:=by
 refine TF.still (fn:=Tryd.f48) (c:=(Tryd.f48.body.getD .skip)) Tryd.func48 (by kernel_rfl) Tryd.ntmps48 (by kernel_rfl) (by simp) ?_
 conv=>arg 2;whnf
 repeat' (first|((with_reducible apply RS.callP);(iterate 3 exact rfl);exact fun H=>(digit_tf _ H);exact Nm_free (by simp))|((with_reducible first|apply RS.move|apply RS.assign|apply RS.convI);iterate 3 exact rfl)|refine Yb ?_|refine Yd ?_|refine Y6 ?_|refine Y7 ?_|refine Yu ?_|((with_reducible apply RS.bin);iterate 5 exact rfl)|refine Yn ?_|refine Y0 ?_|refine Yw ?_|refine Y1 ?_|refine Y3 ?_|((refine YD ?_ ?_)<;>intro _)|((refine YG ?_ ?_)<;>intro _)|((refine YC ?_ ?_)<;>intro _)|((refine YN ?_ ?_)<;>intro _))
 all_goals refine endsK_ret _ (.cons (.tmp rfl) .nil) ⟨rfl,?_⟩
 all_goals simp only [resultOf,Value.int.injEq,true_and,valueI]
 all_goals simp only [digitI,Bool.and_eq_true,decide_eq_true_eq,Bool.and_eq_false_iff,decide_eq_false_iff_not,ge_iff_le] at *
 all_goals (try rw [wrap_u8 (by omega) (by omega)])
 all_goals (try rw [wrap_u64 (n:=c - 97) (by omega) (by omega)])
 all_goals (try rw [wrap_u64 (n:=c - 65) (by omega) (by omega)])
 all_goals (try rw [wrap_u64 (by omega) (by omega)])
 all_goals (repeat' split)
 all_goals omega
end Go.Proofs.YtbmmchaaiakanaaDoor
namespace Go.Proofs.YtbmmchaaiakanaaDoor
def chr (s:ByteArray) (i:Nat):Int:=if h:i < s.size then ((s[i]'h).toNat:Int) else -1
theorem chr_lt {s:ByteArray} {i:Nat} (h:i < s.size):chr s i=((s[i]'h).toNat:Int):=by unfold chr;rw [dif_pos h]
theorem chr_ge {s:ByteArray} {i:Nat} (h:¬ i < s.size):chr s i=-1:=by unfold chr;rw [dif_neg h]
theorem chr_nn {s:ByteArray} {i:Nat} (h:i < s.size):0≤chr s i:=by rw [chr_lt h];omega
theorem chr_le (s:ByteArray) (i:Nat):chr s i≤255:=by
 unfold chr;split
 ·have:=(s[i]).toNat_lt;omega
 ·omega
def valN (c:Int):Nat:=(valueI c).toNat
theorem valueI_nn (c:Int):0≤valueI c∧valueI c≤99:=by
 unfold valueI digitI
 simp only [Bool.and_eq_true,decide_eq_true_eq]
 repeat' split
 all_goals omega
theorem valN_cast (c:Int):valueI c=(valN c:Int):=by
 have:=valueI_nn c
 unfold valN;omega
theorem valN_le (c:Int):valN c≤99:=by
 have:=valueI_nn c
 unfold valN;omega
structure TokS where
 kind:Nat
 text:ByteArray
 pos:Nat
 value:Nat
 uns:Bool
 long:Bool
def zeroTok:TokS:=⟨0,⟨#[]⟩,0,0,false,false⟩
def numL (s:ByteArray) (base:Nat):Nat→Nat→Nat→Option (Nat × Nat)
 | 0,e,v=>some (v,e)
 | n+1,e,v=>if wordyI (chr s e)=true∧valN (chr s e) < base then (if (18446744073709551615 - valN (chr s e)) / base < v then none else numL s base n (e+1) (v * base+valN (chr s e))) else some (v,e)
def numTail (s:ByteArray) (p v e:Nat):TokS × Bool :=
 let u:=chr s e == 117
 let e1:=if u then e+1 else e
 let g:=chr s e1 == 108
 let e2:=if g then e1+1 else e1
 (⟨3,s.extract p e2,p,v,u,g⟩,!(wordyI (chr s e2)))
def numHex (s:ByteArray) (p:Nat):Bool:=chr s p == 48 && chr s (p+1) == 120
def numberR (s:ByteArray) (p base start:Nat):TokS × Bool :=
 match numL s base (s.size - start) start 0 with
 | none=>(zeroTok,false)
 | some (v,e)=>if e=start then (zeroTok,false) else numTail s p v e
def numberS (s:ByteArray) (p:Nat):TokS × Bool:=if numHex s p then numberR s p 16 (p+2) else numberR s p 10 p
theorem numL_step {s:ByteArray} {base e v:Nat} (he:e < s.size):numL s base (s.size - e) e v=if wordyI (chr s e)=true∧valN (chr s e) < base then (if (18446744073709551615 - valN (chr s e)) / base < v then none else numL s base (s.size - (e+1)) (e+1) (v * base+valN (chr s e))) else some (v,e):=by
 have:s.size - e=(s.size - (e+1))+1:=by omega
 rw [this,numL]
theorem numL_end {s:ByteArray} {base e v:Nat} (he:¬ e < s.size):numL s base (s.size - e) e v=some (v,e):=by
 have:s.size - e=0:=by omega
 rw [this,numL]
theorem hasP2 {s:ByteArray} {p:Nat} {a b:UInt8} (hp:p≤s.size):Lib.hasPrefix (s.extract p s.size).data.toList [a,b]=(chr s p == (a.toNat:Int) && chr s (p+1) == (b.toNat:Int)):=by
 have key:(s.extract p s.size).data.toList=s.data.toList.drop p:=by
  rw [Lib.extract_data]
  simp [List.take_of_length_le]
 have get:∀ i (h:i < s.size),s.data.toList[i]?=some (s[i]'h):=by
  intro i h
  rw [Array.getElem?_toList]
  exact Array.getElem?_eq_getElem (by simpa using h)
 have u8:∀ x y:UInt8,((x.toNat:Int) == (y.toNat:Int))=(y == x):=by
  intro x y
  rw [Bool.eq_iff_iff];simp only [beq_iff_eq]
  constructor
  ·intro h;exact (UInt8.toNat_inj.1 (by omega)).symm
  ·intro h;rw [h]
 rw [key]
 by_cases h0:p < s.size
 ·have g0:=get p h0
  have d0:s.data.toList.drop p=s[p]::s.data.toList.drop (p+1):=by
   have hl:p < s.data.toList.length:=by simpa using h0
   rw [List.drop_eq_getElem_cons hl]
   congr 1
  rw [d0,hp2,chr_lt h0,u8]
  congr 1
  by_cases h1:p+1 < s.size
  ·have hl:p+1 < s.data.toList.length:=by simpa using h1
   rw [List.drop_eq_getElem_cons hl,chr_lt h1,u8]
   rfl
  ·have hl:s.data.toList.length≤p+1:=by simpa using h1
   rw [List.drop_eq_nil_of_le hl,chr_ge h1]
   simp
 ·have hl:s.data.toList.length≤p:=by simpa using h0
  rw [List.drop_eq_nil_of_le hl,chr_ge h0]
  simp [Lib.hasPrefix]
end Go.Proofs.YtbmmchaaiakanaaDoor
namespace Go.Proofs
open Go.Shelf
def Tryd.lays137_ren:Go.Shelf.Ren:=⟨fun|137=>28|217=>46|266=>58|n=>n,fun|9=>9|5=>5|3=>3|n=>n,fun|n=>n⟩
theorem Tryd.lays137:Go.Proofs.Lays.n137 Tryd.prog Tryd.lays137_ren:={
 mixed:=by kernel_rfl
 f137:=Tryd.func28.trans (congrArg some (by kernel_rfl))
 f217:=Tryd.func46.trans (congrArg some (by kernel_rfl))
 f266:=Tryd.func58.trans (congrArg some (by kernel_rfl))
 t3:=Tryd.underlying3
 a3:=Tryd.isAgg3
 z3:=Tryd.sizeOf3
 v3:=Tryd.zeroValue3
 t5:=Tryd.underlying5
 a5:=Tryd.isAgg5
 z5:=Tryd.sizeOf5
 v5:=Tryd.zeroValue5
 t9:=Tryd.underlying9
 a9:=Tryd.isAgg9
 z9:=Tryd.sizeOf9
 v9:=Tryd.zeroValue9 }
open Go.RowKit in
theorem Tryd.strings_IndexByte (s:ByteArray) (c:Int) (w:World) :
 Calls Tryd.prog 28 #[.string s,.int .u8 c] w fun e w'=>e=.returned (.int .i64 (Lib.indexByte s.data.toList c.toNat.toUInt8))∧w'=w:=Any.strings_IndexByte Tryd.lays137 s c w
def Tryd.lays217_ren:Go.Shelf.Ren:=⟨fun|217=>46|266=>58|n=>n,fun|9=>9|5=>5|3=>3|n=>n,fun|n=>n⟩
open Go.RowKit Go.Lib in
def Tryd.lays224_ren:Go.Shelf.Ren:=⟨fun|224=>60|n=>n,fun|3=>3|n=>n,fun|n=>n⟩
open Go.RowKit Go.Lib in
def Tryd.lays314_ren:Go.Shelf.Ren:=⟨fun|314=>65|n=>n,fun|9=>9|51=>114|3=>3|4=>4|5=>5|46=>110|n=>n,fun|n=>n⟩
open Go.RowKit Go.Lib in
def Tryd.lays267_ren:Go.Shelf.Ren:=⟨fun|267=>61|314=>65|n=>n,fun|9=>9|3=>3|146=>121|51=>114|4=>4|5=>5|46=>110|n=>n,fun|n=>n⟩
open Go.RowKit Go.Lib in
def Tryd.lays219_ren:Go.Shelf.Ren:=⟨fun|219=>47|217=>46|225=>59|224=>60|267=>61|266=>58|314=>65|n=>n,fun|9=>9|3=>3|4=>4|5=>5|46=>110|146=>121|51=>114|n=>n,fun|1=>1|n=>n⟩
open Go.RowKit Go.Lib in
def Tryd.lays143_ren:Go.Shelf.Ren:=⟨fun|143=>29|219=>47|217=>46|225=>59|224=>60|267=>61|266=>58|314=>65|n=>n,fun|9=>9|3=>3|4=>4|5=>5|46=>110|146=>121|51=>114|n=>n,fun|1=>1|n=>n⟩
theorem Tryd.lays143:Go.Proofs.Lays.n143 Tryd.prog Tryd.lays143_ren:={
 mixed:=by kernel_rfl
 f143:=Tryd.func29.trans (congrArg some (by kernel_rfl))
 f217:=Tryd.func46.trans (congrArg some (by kernel_rfl))
 f219:=Tryd.func47.trans (congrArg some (by kernel_rfl))
 f224:=Tryd.func60.trans (congrArg some (by kernel_rfl))
 f225:=Tryd.func59.trans (congrArg some (by kernel_rfl))
 f266:=Tryd.func58.trans (congrArg some (by kernel_rfl))
 f267:=Tryd.func61.trans (congrArg some (by kernel_rfl))
 f314:=Tryd.func65.trans (congrArg some (by kernel_rfl))
 t3:=Tryd.underlying3
 a3:=Tryd.isAgg3
 z3:=Tryd.sizeOf3
 v3:=Tryd.zeroValue3
 t4:=Tryd.underlying4
 a4:=Tryd.isAgg4
 z4:=Tryd.sizeOf4
 v4:=Tryd.zeroValue4
 t5:=Tryd.underlying5
 a5:=Tryd.isAgg5
 z5:=Tryd.sizeOf5
 v5:=Tryd.zeroValue5
 t9:=Tryd.underlying9
 a9:=Tryd.isAgg9
 z9:=Tryd.sizeOf9
 v9:=Tryd.zeroValue9
 t46:=Tryd.underlying110
 a46:=Tryd.isAgg110
 z46:=Tryd.sizeOf110
 v46:=Tryd.zeroValue110
 t51:=Tryd.underlying114
 a51:=Tryd.isAgg114
 z51:=Tryd.sizeOf114
 v51:=Tryd.zeroValue114
 t146:=Tryd.underlying121
 a146:=Tryd.isAgg121
 z146:=Tryd.sizeOf121
 v146:=Tryd.zeroValue121
 g1:=by kernel_rfl }
open Go.RowKit Go.Lib in
theorem Tryd.strings_Index (s sub:ByteArray) (m:Int) (w:World) (hs:s.size < 4294967281) (hm:w.cell? ⟨1,0,none⟩=some (.int .i64 m)) :
 Calls Tryd.prog 29 #[.string s,.string sub] w fun e w'=>e=.returned (.int .i64 (Lib.index s.data.toList sub.data.toList))∧w'=w:=Any.strings_Index Tryd.lays143 s sub m w hs hm
def Tryd.lays144_ren:Go.Shelf.Ren:=⟨fun|144=>32|143=>29|219=>47|217=>46|225=>59|224=>60|267=>61|266=>58|314=>65|n=>n,fun|9=>9|4=>4|3=>3|5=>5|46=>110|146=>121|51=>114|n=>n,fun|1=>1|n=>n⟩
theorem Tryd.lays144:Go.Proofs.Lays.n144 Tryd.prog Tryd.lays144_ren:={
 mixed:=by kernel_rfl
 f143:=Tryd.func29.trans (congrArg some (by kernel_rfl))
 f144:=Tryd.func32.trans (congrArg some (by kernel_rfl))
 f217:=Tryd.func46.trans (congrArg some (by kernel_rfl))
 f219:=Tryd.func47.trans (congrArg some (by kernel_rfl))
 f224:=Tryd.func60.trans (congrArg some (by kernel_rfl))
 f225:=Tryd.func59.trans (congrArg some (by kernel_rfl))
 f266:=Tryd.func58.trans (congrArg some (by kernel_rfl))
 f267:=Tryd.func61.trans (congrArg some (by kernel_rfl))
 f314:=Tryd.func65.trans (congrArg some (by kernel_rfl))
 t3:=Tryd.underlying3
 a3:=Tryd.isAgg3
 z3:=Tryd.sizeOf3
 v3:=Tryd.zeroValue3
 t4:=Tryd.underlying4
 a4:=Tryd.isAgg4
 z4:=Tryd.sizeOf4
 v4:=Tryd.zeroValue4
 t5:=Tryd.underlying5
 a5:=Tryd.isAgg5
 z5:=Tryd.sizeOf5
 v5:=Tryd.zeroValue5
 t9:=Tryd.underlying9
 a9:=Tryd.isAgg9
 z9:=Tryd.sizeOf9
 v9:=Tryd.zeroValue9
 t46:=Tryd.underlying110
 a46:=Tryd.isAgg110
 z46:=Tryd.sizeOf110
 v46:=Tryd.zeroValue110
 t51:=Tryd.underlying114
 a51:=Tryd.isAgg114
 z51:=Tryd.sizeOf114
 v51:=Tryd.zeroValue114
 t146:=Tryd.underlying121
 a146:=Tryd.isAgg121
 z146:=Tryd.sizeOf121
 v146:=Tryd.zeroValue121
 g1:=by kernel_rfl }
open Go.RowKit Go.Lib in
theorem Tryd.strings_Contains (s sub:ByteArray) (m:Int) (w:World) (hs:s.size < 4294967281) (hm:w.cell? ⟨1,0,none⟩=some (.int .i64 m)) :
 Calls Tryd.prog 32 #[.string s,.string sub] w fun e w'=>e=.returned (.bool (Lib.contains s.data.toList sub.data.toList))∧w'=w:=Any.strings_Contains Tryd.lays144 s sub m w hs hm
end Go.Proofs
