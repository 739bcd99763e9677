/-
  What the functions that the law reaches compute,told by plain data;it holds of programs that pass the check of right form and are light.
-/
import Derived.Test.YtjhloakacicdiaaDoorR4
import Derived.Test.YtjhloakacicdiaaDoorS2
set_option linter.unusedVariables false
set_option linter.unusedSimpArgs false
namespace Go.Proofs.YtjhloakacicdiaaDoor
open Go.AH
attribute [local irreducible] W RS
def blockA (b:BV):Value:=.agg ⟨rowVl 12 b.r b.ins::termC b.term⟩
theorem rowVl_ne {α:Type} {sz r:Nat} {l:List α} (h:l≠[]):rowVl sz r l=.slice (some ⟨r,0,none⟩) l.length (capOf sz):=by
 cases l with
 | nil=>exact absurd rfl h
 | cons a l=>rfl
theorem ins_wid (l:List InsV):∀ c∈l.map insVC,c.length=12:=by intro c hc;obtain ⟨z,_,rfl⟩:=List.mem_map.1 hc;rfl
def keptV (r:SetS):Nat→List BV→List BV
 | _,[]=>[]
 | i,b::bv=>if hasS r i=true then b::keptV r (i+1) bv else keptV r (i+1) bv
end Go.Proofs.YtjhloakacicdiaaDoor
