/-
  What the functions that the law reaches compute,told by plain data;it holds of programs that pass the check of right form and are light.
-/
import Derived.Test.YtjhloakacicdiaaDoorR4
import Derived.Test.YtjhloakacicdiaaDoorS2
set_option linter.unusedVariables false
set_option linter.unusedSimpArgs false
namespace Go.Proofs.YtjhloakacicdiaaDoor
open Go.AH
attribute [local irreducible] W RS
theorem numN_tf (n:Int) (h:Hp):TF Tryd.prog 28 ⟨[.int .i64 n]⟩ h (.agg ⟨[.int .i64 (-1),.int .i64 n]⟩) h:=by
 refine TF.still (fn:=Tryd.f28) (c:=(Tryd.f28.body.getD .skip)) Tryd.func28 (by kernel_rfl) Tryd.ntmps28 (by kernel_rfl) (by simp) ?_
 conv=>arg 2;whnf
 repeat (first|refine Y1m ?_|refine Y4 ?_|refine Yf ?_|refine Y11 ?_|refine Y0 ?_|refine Y1b ?_|refine Y1 ?_)
 exact endsK_ret _ (.cons (.cellN rfl rfl rfl (Nat.le_of_ble_eq_true rfl)) .nil) ⟨rfl,rfl⟩
def blockA (b:BV):Value:=.agg ⟨rowVl 12 b.r b.ins::termC b.term⟩
theorem bv_term {bv:List BV} {i off:Nat} {b:BV} (hb:bv[i]?=some b) (ho:off=i * 9+1):takeV off 8 (bv.map BV.c).flatten=termC b.term∧off+8≤(bv.map BV.c).flatten.length :=
 bv_cells (o:=1) (n:=8) hb ho (by decide)
theorem rowVl_ne {α:Type} {sz r:Nat} {l:List α} (h:l≠[]):rowVl sz r l=.slice (some ⟨r,0,none⟩) l.length (capOf sz):=by
 cases l with
 | nil=>exact absurd rfl h
 | cons a l=>rfl
theorem ins_wid (l:List InsV):∀ c∈l.map insVC,c.length=12:=by intro c hc;obtain ⟨z,_,rfl⟩:=List.mem_map.1 hc;rfl
def keptV (r:SetS):Nat→List BV→List BV
 | _,[]=>[]
 | i,b::bv=>if hasS r i=true then b::keptV r (i+1) bv else keptV r (i+1) bv
end Go.Proofs.YtjhloakacicdiaaDoor
