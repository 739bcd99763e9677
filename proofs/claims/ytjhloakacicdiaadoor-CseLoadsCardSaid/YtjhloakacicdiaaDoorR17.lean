/-
  What the functions that the law reaches compute,told by plain data;it holds of programs that pass the check of right form and are light.
-/
import Derived.Test.YtjhloakacicdiaaDoorR16
import Derived.Test.YtjhloakacicdiaaDoorR9
set_option linter.unusedVariables false
set_option linter.unusedSimpArgs false
namespace Go.Proofs.YtjhloakacicdiaaDoor
open Go.AH
attribute [local irreducible] W RS
theorem argsC_set:∀ {l:List ArgS} {i:Nat} {a:ArgS},i < l.length→setL (argsC l) (0+i * 2) (argC a)=argsC (l.set i a)
 | b::l,0,a,_=>by
  show setL (argC b++argsC l) _ (argC a)=argC a++argsC l
  unfold argC
  rw [setL_cons,setL_cons,setL_nil];rfl
 | b::l,i+1,a,h=>by
  have:=argsC_set (l:=l) (i:=i) (a:=a) (by simpa using h)
  show setL (argC b++argsC l) _ _=argC b++argsC (l.set i a)
  rw [← this,show 0+(i+1) * 2=(argC b).length+(0+i * 2) by simp [argC];omega]
  exact setL_app2 (argC b) (argsC l) _ _
structure KeepH (h:Hp) (N:Nat) (B:Hp):Prop where
 off:OffS (fun j=>N≤j) h B
 oth:∀ j x,h.m j=some x→x.elem≠50→x.elem≠58→x.elem≠46→B.m j=some x
structure FunI (B:Hp) (fb rb:Nat) (FC:List Value):Prop where
 f:B.m fb=some ⟨⟨FC⟩,37⟩
 r:B.m rb=some ⟨⟨cellsV (.agg ⟨funcC ⟨⟨#[]⟩,0,0,0,[],[]⟩ none 0 none 0 none 0⟩)⟩,37⟩
theorem set_self (h:Hp) (i:Nat) (b:Blk):(h.set i b).m i=some b:=by show (if i=i then _ else _)=_;rw [if_pos rfl]
theorem insVC_one (x:InsV):(cellsV (.agg ⟨insVC x⟩)).all (·.oneCell')=true:=by rw [insVC_eq];rfl
end Go.Proofs.YtjhloakacicdiaaDoor
