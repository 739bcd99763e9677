/-
  What the functions that the law reaches compute,told by plain data;it holds of programs that pass the check of right form and are light.
-/
import Derived.KernelRfl
import Derived.Test.YtjhloakacicdiaaDoorRows
import Derived.Test.YtjhloakacicdiaaDoorS1
import Derived.Test.YtjhloakacicdiaaDoorS2
set_option linter.unusedVariables false
set_option linter.unusedSimpArgs false
namespace Go.Proofs.YtjhloakacicdiaaDoor
open Go.AH
theorem mixed:Tryd.prog.follows .mixedOrders=true:=by kernel_rfl
instance:TyU Tryd.prog 2 (.int .i64):=⟨by kernel_rfl⟩
instance:TyOne Tryd.prog 2:=⟨by kernel_rfl⟩
instance:TyOne Tryd.prog 3:=⟨by kernel_rfl⟩
instance:TySz Tryd.prog 3 1:=⟨by kernel_rfl⟩
instance:TyBy Tryd.prog 3 8:=⟨by kernel_rfl⟩
instance:TyZ Tryd.prog 3 (.int .i64 0):=⟨by kernel_rfl,by kernel_rfl⟩
instance:TyOne Tryd.prog 4:=⟨by kernel_rfl⟩
instance:TySz Tryd.prog 4 1:=⟨by kernel_rfl⟩
instance:TyBy Tryd.prog 4 1:=⟨by kernel_rfl⟩
instance:TyZ Tryd.prog 4 (.bool false):=⟨by kernel_rfl,by kernel_rfl⟩
instance:TyU Tryd.prog 5 (.int .u8):=⟨by kernel_rfl⟩
instance:TySz Tryd.prog 5 1:=⟨by kernel_rfl⟩
instance:TyU Tryd.prog 9 .string:=⟨by kernel_rfl⟩
instance:TyOne Tryd.prog 9:=⟨by kernel_rfl⟩
instance:TySz Tryd.prog 9 1:=⟨by kernel_rfl⟩
instance:TyBy Tryd.prog 9 16:=⟨by kernel_rfl⟩
instance:TyZ Tryd.prog 9 (.string ⟨#[]⟩):=⟨by kernel_rfl,by kernel_rfl⟩
instance:TyU Tryd.prog 22 (.slice 37):=⟨by kernel_rfl⟩
instance:TyOne Tryd.prog 22:=⟨by kernel_rfl⟩
instance:TySz Tryd.prog 22 1:=⟨by kernel_rfl⟩
instance:TyU Tryd.prog 23 (.slice 111):=⟨by kernel_rfl⟩
instance:TyOne Tryd.prog 23:=⟨by kernel_rfl⟩
instance:TyAgg Tryd.prog 25 4:=⟨⟨by kernel_rfl,by kernel_rfl⟩⟩
instance:TySz Tryd.prog 25 4:=⟨by kernel_rfl⟩
instance:TyZ Tryd.prog 25 (.agg ⟨[(.slice none 0 0),(.slice none 0 0),(.int .i64 0),(.int .i64 0)]⟩):=⟨by kernel_rfl,by kernel_rfl⟩
instance:TyS Tryd.prog 25 [(.slice none 0 0),(.slice none 0 0),(.int .i64 0),(.int .i64 0)] [(0,1),(1,1),(2,1),(3,1)]:=⟨by kernel_rfl,by kernel_rfl,by kernel_rfl⟩
instance:FOff Tryd.prog 25 0 0:=⟨by kernel_rfl⟩
instance:FOff Tryd.prog 25 1 1:=⟨by kernel_rfl⟩
instance:FOff Tryd.prog 25 2 2:=⟨by kernel_rfl⟩
instance:FOff Tryd.prog 25 3 3:=⟨by kernel_rfl⟩
instance:TyU Tryd.prog 28 (.slice 5):=⟨by kernel_rfl⟩
instance:TyOne Tryd.prog 28:=⟨by kernel_rfl⟩
instance:TyAgg Tryd.prog 30 2:=⟨⟨by kernel_rfl,by kernel_rfl⟩⟩
instance:TyS Tryd.prog 30 [(.slice none 0 0),(.slice none 0 0)] [(0,1),(1,1)]:=⟨by kernel_rfl,by kernel_rfl,by kernel_rfl⟩
instance:FOff Tryd.prog 30 0 0:=⟨by kernel_rfl⟩
instance:FOff Tryd.prog 30 1 1:=⟨by kernel_rfl⟩
instance:TyU Tryd.prog 31 (.pointer 25):=⟨by kernel_rfl⟩
instance:TyU Tryd.prog 33 (.slice 4):=⟨by kernel_rfl⟩
instance:TyOne Tryd.prog 33:=⟨by kernel_rfl⟩
instance:TySz Tryd.prog 33 1:=⟨by kernel_rfl⟩
instance:TyU Tryd.prog 34 (.slice 3):=⟨by kernel_rfl⟩
instance:TyOne Tryd.prog 34:=⟨by kernel_rfl⟩
instance:TySz Tryd.prog 34 1:=⟨by kernel_rfl⟩
instance:TyZ Tryd.prog 34 (.slice none 0 0):=⟨by kernel_rfl,by kernel_rfl⟩
instance:TyU Tryd.prog 35 (.slice 50):=⟨by kernel_rfl⟩
instance:TyOne Tryd.prog 35:=⟨by kernel_rfl⟩
instance:TySz Tryd.prog 35 1:=⟨by kernel_rfl⟩
instance:TyAgg Tryd.prog 37 6:=⟨⟨by kernel_rfl,by kernel_rfl⟩⟩
instance:TySz Tryd.prog 37 6:=⟨by kernel_rfl⟩
instance:TyBy Tryd.prog 37 104:=⟨by kernel_rfl⟩
instance:TyZ Tryd.prog 37 (.agg ⟨[(.string ⟨#[]⟩),(.int .i64 0),(.slice none 0 0),(.int .i64 0),(.slice none 0 0),(.slice none 0 0)]⟩):=⟨by kernel_rfl,by kernel_rfl⟩
instance:TyS Tryd.prog 37 [(.string ⟨#[]⟩),(.int .i64 0),(.slice none 0 0),(.int .i64 0),(.slice none 0 0),(.slice none 0 0)] [(0,1),(1,1),(2,1),(3,1),(4,1),(5,1)]:=⟨by kernel_rfl,by kernel_rfl,by kernel_rfl⟩
instance:FOff Tryd.prog 37 0 0:=⟨by kernel_rfl⟩
instance:FOff Tryd.prog 37 1 1:=⟨by kernel_rfl⟩
instance:FOff Tryd.prog 37 2 2:=⟨by kernel_rfl⟩
instance:FOff Tryd.prog 37 3 3:=⟨by kernel_rfl⟩
instance:FOff Tryd.prog 37 4 4:=⟨by kernel_rfl⟩
instance:FOff Tryd.prog 37 5 5:=⟨by kernel_rfl⟩
instance:TyU Tryd.prog 40 (.slice 52):=⟨by kernel_rfl⟩
instance:TyU Tryd.prog 44 (.slice 58):=⟨by kernel_rfl⟩
instance:TyOne Tryd.prog 44:=⟨by kernel_rfl⟩
instance:TySz Tryd.prog 44 1:=⟨by kernel_rfl⟩
instance:TyAgg Tryd.prog 46 2:=⟨⟨by kernel_rfl,by kernel_rfl⟩⟩
instance:TySz Tryd.prog 46 2:=⟨by kernel_rfl⟩
instance:TyBy Tryd.prog 46 16:=⟨by kernel_rfl⟩
instance:TyZ Tryd.prog 46 (.agg ⟨[(.int .i64 0),(.int .i64 0)]⟩):=⟨by kernel_rfl,by kernel_rfl⟩
instance:TyS Tryd.prog 46 [(.int .i64 0),(.int .i64 0)] [(0,1),(1,1)]:=⟨by kernel_rfl,by kernel_rfl,by kernel_rfl⟩
instance:FOff Tryd.prog 46 0 0:=⟨by kernel_rfl⟩
instance:FOff Tryd.prog 46 1 1:=⟨by kernel_rfl⟩
instance:TyAgg Tryd.prog 48 8:=⟨⟨by kernel_rfl,by kernel_rfl⟩⟩
instance:TySz Tryd.prog 48 8:=⟨by kernel_rfl⟩
instance:TyZ Tryd.prog 48 (.agg ⟨[(.int .i64 0),(.int .i64 0),(.int .i64 0),(.int .i64 0),(.int .i64 0),(.int .i64 0),(.int .i64 0),(.int .i64 0)]⟩):=⟨by kernel_rfl,by kernel_rfl⟩
instance:TyS Tryd.prog 48 [(.int .i64 0),(.int .i64 0),(.int .i64 0),(.int .i64 0),(.int .i64 0),(.int .i64 0),(.int .i64 0),(.int .i64 0)] [(0,1),(1,1),(2,2),(4,2),(6,1),(7,1)]:=⟨by kernel_rfl,by kernel_rfl,by kernel_rfl⟩
instance:FOff Tryd.prog 48 0 0:=⟨by kernel_rfl⟩
instance:FOff Tryd.prog 48 1 1:=⟨by kernel_rfl⟩
instance:FOff Tryd.prog 48 2 2:=⟨by kernel_rfl⟩
instance:FOff Tryd.prog 48 3 4:=⟨by kernel_rfl⟩
instance:FOff Tryd.prog 48 4 6:=⟨by kernel_rfl⟩
instance:FOff Tryd.prog 48 5 7:=⟨by kernel_rfl⟩
instance:TyAgg Tryd.prog 50 9:=⟨⟨by kernel_rfl,by kernel_rfl⟩⟩
instance:TySz Tryd.prog 50 9:=⟨by kernel_rfl⟩
instance:TyBy Tryd.prog 50 88:=⟨by kernel_rfl⟩
instance:TyZ Tryd.prog 50 (.agg ⟨[(.slice none 0 0),(.int .i64 0),(.int .i64 0),(.int .i64 0),(.int .i64 0),(.int .i64 0),(.int .i64 0),(.int .i64 0),(.int .i64 0)]⟩):=⟨by kernel_rfl,by kernel_rfl⟩
instance:TyS Tryd.prog 50 [(.slice none 0 0),(.int .i64 0),(.int .i64 0),(.int .i64 0),(.int .i64 0),(.int .i64 0),(.int .i64 0),(.int .i64 0),(.int .i64 0)] [(0,1),(1,8)]:=⟨by kernel_rfl,by kernel_rfl,by kernel_rfl⟩
instance:FOff Tryd.prog 50 0 0:=⟨by kernel_rfl⟩
instance:FOff Tryd.prog 50 1 1:=⟨by kernel_rfl⟩
instance:TyU Tryd.prog 52 (.slice 90):=⟨by kernel_rfl⟩
instance:TyOne Tryd.prog 52:=⟨by kernel_rfl⟩
instance:TySz Tryd.prog 52 1:=⟨by kernel_rfl⟩
instance:TyBy Tryd.prog 52 24:=⟨by kernel_rfl⟩
instance:TyZ Tryd.prog 52 (.slice none 0 0):=⟨by kernel_rfl,by kernel_rfl⟩
instance:TyU Tryd.prog 54 (.slice 46):=⟨by kernel_rfl⟩
instance:TyOne Tryd.prog 54:=⟨by kernel_rfl⟩
instance:TySz Tryd.prog 54 1:=⟨by kernel_rfl⟩
instance:TyAgg Tryd.prog 58 12:=⟨⟨by kernel_rfl,by kernel_rfl⟩⟩
instance:TySz Tryd.prog 58 12:=⟨by kernel_rfl⟩
instance:TyBy Tryd.prog 58 104:=⟨by kernel_rfl⟩
instance:TyZ Tryd.prog 58 (.agg ⟨[(.int .i64 0),(.int .i64 0),(.int .i64 0),(.int .i64 0),(.int .i64 0),(.int .i64 0),(.int .i64 0),(.bool false),(.bool false),(.int .i64 0),(.int .i64 0),(.slice none 0 0)]⟩):=⟨by kernel_rfl,by kernel_rfl⟩
instance:TyS Tryd.prog 58 [(.int .i64 0),(.int .i64 0),(.int .i64 0),(.int .i64 0),(.int .i64 0),(.int .i64 0),(.int .i64 0),(.bool false),(.bool false),(.int .i64 0),(.int .i64 0),(.slice none 0 0)] [(0,1),(1,1),(2,2),(4,2),(6,1),(7,1),(8,1),(9,1),(10,1),(11,1)]:=⟨by kernel_rfl,by kernel_rfl,by kernel_rfl⟩
instance:FOff Tryd.prog 58 0 0:=⟨by kernel_rfl⟩
instance:FOff Tryd.prog 58 1 1:=⟨by kernel_rfl⟩
instance:FOff Tryd.prog 58 2 2:=⟨by kernel_rfl⟩
instance:FOff Tryd.prog 58 3 4:=⟨by kernel_rfl⟩
instance:FOff Tryd.prog 58 4 6:=⟨by kernel_rfl⟩
instance:FOff Tryd.prog 58 5 7:=⟨by kernel_rfl⟩
instance:FOff Tryd.prog 58 6 8:=⟨by kernel_rfl⟩
instance:FOff Tryd.prog 58 7 9:=⟨by kernel_rfl⟩
instance:FOff Tryd.prog 58 8 10:=⟨by kernel_rfl⟩
instance:FOff Tryd.prog 58 9 11:=⟨by kernel_rfl⟩
instance:TyU Tryd.prog 80 (.slice 9):=⟨by kernel_rfl⟩
instance:TyU Tryd.prog 82 (.array 31 9):=⟨by kernel_rfl⟩
instance:TyU Tryd.prog 90 (.int .u64):=⟨by kernel_rfl⟩
instance:TyOne Tryd.prog 90:=⟨by kernel_rfl⟩
instance:TySz Tryd.prog 90 1:=⟨by kernel_rfl⟩
instance:TyBy Tryd.prog 90 8:=⟨by kernel_rfl⟩
instance:TyZ Tryd.prog 90 (.int .u64 0):=⟨by kernel_rfl,by kernel_rfl⟩
instance:TyU Tryd.prog 109 (.slice 113):=⟨by kernel_rfl⟩
instance:TyOne Tryd.prog 109:=⟨by kernel_rfl⟩
instance:TyAgg Tryd.prog 111 4:=⟨⟨by kernel_rfl,by kernel_rfl⟩⟩
instance:TySz Tryd.prog 111 4:=⟨by kernel_rfl⟩
instance:TyZ Tryd.prog 111 (.agg ⟨[(.string ⟨#[]⟩),(.int .i64 0),(.int .i64 0),(.slice none 0 0)]⟩):=⟨by kernel_rfl,by kernel_rfl⟩
instance:FOff Tryd.prog 111 1 1:=⟨by kernel_rfl⟩
instance:FOff Tryd.prog 111 2 2:=⟨by kernel_rfl⟩
instance:FOff Tryd.prog 111 3 3:=⟨by kernel_rfl⟩
instance:TyAgg Tryd.prog 113 3:=⟨⟨by kernel_rfl,by kernel_rfl⟩⟩
instance:TySz Tryd.prog 113 3:=⟨by kernel_rfl⟩
instance:TyZ Tryd.prog 113 (.agg ⟨[(.int .i64 0),(.slice none 0 0),(.int .i64 0)]⟩):=⟨by kernel_rfl,by kernel_rfl⟩
instance:FOff Tryd.prog 113 0 0:=⟨by kernel_rfl⟩
instance:FOff Tryd.prog 113 1 1:=⟨by kernel_rfl⟩
instance:FOff Tryd.prog 113 2 2:=⟨by kernel_rfl⟩
instance:TyU Tryd.prog 164 (.array 24 5):=⟨by kernel_rfl⟩
instance:TyZ Tryd.prog 164 (.agg ⟨[(.int .u8 0),(.int .u8 0),(.int .u8 0),(.int .u8 0),(.int .u8 0),(.int .u8 0),(.int .u8 0),(.int .u8 0),(.int .u8 0),(.int .u8 0),(.int .u8 0),(.int .u8 0),(.int .u8 0),(.int .u8 0),(.int .u8 0),(.int .u8 0),(.int .u8 0),(.int .u8 0),(.int .u8 0),(.int .u8 0),(.int .u8 0),(.int .u8 0),(.int .u8 0),(.int .u8 0)]⟩):=⟨by kernel_rfl,by kernel_rfl⟩
instance:TyU Tryd.prog 177 (.array 20 90):=⟨by kernel_rfl⟩
instance:TyU Tryd.prog 178 (.int .u32):=⟨by kernel_rfl⟩
instance:GF Tryd.prog 8:=⟨by kernel_rfl⟩
instance:GF Tryd.prog 9:=⟨by kernel_rfl⟩
instance:GF Tryd.prog 10:=⟨by kernel_rfl⟩
instance:GF Tryd.prog 11:=⟨by kernel_rfl⟩
instance:GF Tryd.prog 12:=⟨by kernel_rfl⟩
instance:GF Tryd.prog 13:=⟨by kernel_rfl⟩
instance:GF Tryd.prog 14:=⟨by kernel_rfl⟩
instance:GF Tryd.prog 15:=⟨by kernel_rfl⟩
instance:GF Tryd.prog 16:=⟨by kernel_rfl⟩
instance:GF Tryd.prog 17:=⟨by kernel_rfl⟩
instance:GF Tryd.prog 18:=⟨by kernel_rfl⟩
instance:GF Tryd.prog 19:=⟨by kernel_rfl⟩
instance:GF Tryd.prog 20:=⟨by kernel_rfl⟩
instance:GF Tryd.prog 21:=⟨by kernel_rfl⟩
instance:GF Tryd.prog 22:=⟨by kernel_rfl⟩
instance:GF Tryd.prog 23:=⟨by kernel_rfl⟩
instance:GF Tryd.prog 24:=⟨by kernel_rfl⟩
instance:GF Tryd.prog 25:=⟨by kernel_rfl⟩
instance:GF Tryd.prog 27:=⟨by kernel_rfl⟩
instance:GF Tryd.prog 28:=⟨by kernel_rfl⟩
instance:GF Tryd.prog 36:=⟨by kernel_rfl⟩
instance:GF Tryd.prog 37:=⟨by kernel_rfl⟩
instance:GF Tryd.prog 38:=⟨by kernel_rfl⟩
instance:GF Tryd.prog 39:=⟨by kernel_rfl⟩
instance:GF Tryd.prog 40:=⟨by kernel_rfl⟩
instance:GF Tryd.prog 41:=⟨by kernel_rfl⟩
instance:GF Tryd.prog 42:=⟨by kernel_rfl⟩
instance:GF Tryd.prog 43:=⟨by kernel_rfl⟩
instance:GF Tryd.prog 44:=⟨by kernel_rfl⟩
instance:GF Tryd.prog 45:=⟨by kernel_rfl⟩
instance:GF Tryd.prog 46:=⟨by kernel_rfl⟩
instance:GF Tryd.prog 47:=⟨by kernel_rfl⟩
instance:GF Tryd.prog 48:=⟨by kernel_rfl⟩
instance:GF Tryd.prog 49:=⟨by kernel_rfl⟩
instance:GF Tryd.prog 50:=⟨by kernel_rfl⟩
instance:GF Tryd.prog 51:=⟨by kernel_rfl⟩
instance:GF Tryd.prog 52:=⟨by kernel_rfl⟩
instance:GF Tryd.prog 53:=⟨by kernel_rfl⟩
instance:GF Tryd.prog 62:=⟨by kernel_rfl⟩
instance:GF Tryd.prog 63:=⟨by kernel_rfl⟩
instance:GF Tryd.prog 64:=⟨by kernel_rfl⟩
instance:GF Tryd.prog 65:=⟨by kernel_rfl⟩
instance:GF Tryd.prog 66:=⟨by kernel_rfl⟩
instance:GF Tryd.prog 70:=⟨by kernel_rfl⟩
instance:GF Tryd.prog 71:=⟨by kernel_rfl⟩
instance:GF Tryd.prog 72:=⟨by kernel_rfl⟩
instance:GF Tryd.prog 82:=⟨by kernel_rfl⟩
instance:GF Tryd.prog 85:=⟨by kernel_rfl⟩
instance:GF Tryd.prog 86:=⟨by kernel_rfl⟩
instance:GF Tryd.prog 87:=⟨by kernel_rfl⟩
instance:GF Tryd.prog 90:=⟨by kernel_rfl⟩
instance:GF Tryd.prog 101:=⟨by kernel_rfl⟩
instance:GF Tryd.prog 102:=⟨by kernel_rfl⟩
instance:GF Tryd.prog 103:=⟨by kernel_rfl⟩
instance:GF Tryd.prog 112:=⟨by kernel_rfl⟩
instance:GF Tryd.prog 113:=⟨by kernel_rfl⟩
instance:GF Tryd.prog 114:=⟨by kernel_rfl⟩
end Go.Proofs.YtjhloakacicdiaaDoor
namespace Go.Proofs.YtjhloakacicdiaaDoor
open Go.AH
attribute [local irreducible] W RS
def twoS (op:Int):Bool:=decide (3≤op) && decide (op≤21)
theorem two_tf (op:Int) (h:Hp):TF Tryd.prog 19 ⟨[.int .i64 op]⟩ h (.bool (twoS op)) h:=by
  refine TF.still (fn:=Tryd.f19) (c:=(Tryd.f19.body.getD .skip)) Tryd.func19 (by kernel_rfl) Tryd.ntmps19 (by kernel_rfl) (by simp) ?_
  conv=>arg 2;whnf
  repeat' (first|((with_reducible first|apply RS.move|apply RS.assign);iterate 3 exact rfl)|((with_reducible apply RS.pickT);iterate 4 exact rfl)|((with_reducible apply RS.pickF);iterate 4 exact rfl)|((with_reducible apply RS.cmpC);iterate 5 exact rfl)|((with_reducible apply RS.skip);iterate 2 exact rfl)|((with_reducible apply RS.nil);exact mixed;kernel_rfl)|(with_reducible first|apply W.seq|apply W.ret|apply thenK_n)|((with_reducible apply W.reg);kernel_rfl)|(((with_reducible apply RS.splitD);iterate 2 exact rfl)<;>intro _)|((((with_reducible apply RS.splitG);iterate 2 exact rfl)<;>intro _)<;>(fail_if_success cases ‹true=false›)<;>(fail_if_success cases ‹false=true›))|(((with_reducible apply W.condD);exact rfl)<;>intro _)|((((with_reducible apply W.cond);exact rfl)<;>intro _)<;>(fail_if_success cases ‹true=false›)<;>(fail_if_success cases ‹false=true›)))
  all_goals refine endsK_ret _ (.cons (.tmp rfl) .nil) ⟨rfl,?_⟩
  all_goals simp only [resultOf,Value.bool.injEq,twoS]
  all_goals (rw [Bool.eq_iff_iff];simp at *;try omega)
def trapsS (op:Int):Bool:=decide (6≤op) && decide (op≤9)
theorem traps_tf (op:Int) (h:Hp):TF Tryd.prog 20 ⟨[.int .i64 op]⟩ h (.bool (trapsS op)) h:=by
  refine TF.still (fn:=Tryd.f20) (c:=(Tryd.f20.body.getD .skip)) Tryd.func20 (by kernel_rfl) Tryd.ntmps20 (by kernel_rfl) (by simp) ?_
  conv=>arg 2;whnf
  repeat' (first|((with_reducible first|apply RS.move|apply RS.assign);iterate 3 exact rfl)|((with_reducible apply RS.pickT);iterate 4 exact rfl)|((with_reducible apply RS.pickF);iterate 4 exact rfl)|((with_reducible apply RS.cmpC);iterate 5 exact rfl)|((with_reducible apply RS.skip);iterate 2 exact rfl)|((with_reducible apply RS.nil);exact mixed;kernel_rfl)|(with_reducible first|apply W.seq|apply W.ret|apply thenK_n)|((with_reducible apply W.reg);kernel_rfl)|(((with_reducible apply RS.splitD);iterate 2 exact rfl)<;>intro _)|((((with_reducible apply RS.splitG);iterate 2 exact rfl)<;>intro _)<;>(fail_if_success cases ‹true=false›)<;>(fail_if_success cases ‹false=true›))|(((with_reducible apply W.condD);exact rfl)<;>intro _)|((((with_reducible apply W.cond);exact rfl)<;>intro _)<;>(fail_if_success cases ‹true=false›)<;>(fail_if_success cases ‹false=true›)))
  all_goals refine endsK_ret _ (.cons (.tmp rfl) .nil) ⟨rfl,?_⟩
  all_goals simp only [resultOf,Value.bool.injEq,trapsS]
  all_goals (rw [Bool.eq_iff_iff];simp at *;try omega)
def pureS (op:Int):Bool:=decide (1≤op) && decide (op≤25)
theorem pure_tf (op:Int) (h:Hp):TF Tryd.prog 82 ⟨[.int .i64 op]⟩ h (.bool (pureS op)) h:=by
  refine TF.still (fn:=Tryd.f82) (c:=(Tryd.f82.body.getD .skip)) Tryd.func82 (by kernel_rfl) Tryd.ntmps82 (by kernel_rfl) (by simp) ?_
  conv=>arg 2;whnf
  repeat' (first|((with_reducible first|apply RS.move|apply RS.assign);iterate 3 exact rfl)|((with_reducible apply RS.pickT);iterate 4 exact rfl)|((with_reducible apply RS.pickF);iterate 4 exact rfl)|((with_reducible apply RS.cmpC);iterate 5 exact rfl)|((with_reducible apply RS.skip);iterate 2 exact rfl)|((with_reducible apply RS.nil);exact mixed;kernel_rfl)|(with_reducible first|apply W.seq|apply W.ret|apply thenK_n)|((with_reducible apply W.reg);kernel_rfl)|(((with_reducible apply RS.splitD);iterate 2 exact rfl)<;>intro _)|((((with_reducible apply RS.splitG);iterate 2 exact rfl)<;>intro _)<;>(fail_if_success cases ‹true=false›)<;>(fail_if_success cases ‹false=true›))|(((with_reducible apply W.condD);exact rfl)<;>intro _)|((((with_reducible apply W.cond);exact rfl)<;>intro _)<;>(fail_if_success cases ‹true=false›)<;>(fail_if_success cases ‹false=true›)))
  all_goals refine endsK_ret _ (.cons (.tmp rfl) .nil) ⟨rfl,?_⟩
  all_goals simp only [resultOf,Value.bool.injEq,pureS]
  all_goals (rw [Bool.eq_iff_iff];simp at *;try omega)
def sizedS (n:Int):Bool:=n == 1 || n == 2 || n == 4 || n == 8
theorem sized_tf (n:Int) (h:Hp):TF Tryd.prog 86 ⟨[.int .i64 n]⟩ h (.bool (sizedS n)) h:=by
  refine TF.still (fn:=Tryd.f86) (c:=(Tryd.f86.body.getD .skip)) Tryd.func86 (by kernel_rfl) Tryd.ntmps86 (by kernel_rfl) (by simp) ?_
  conv=>arg 2;whnf
  repeat' (first|((with_reducible first|apply RS.move|apply RS.assign);iterate 3 exact rfl)|((with_reducible apply RS.pickT);iterate 4 exact rfl)|((with_reducible apply RS.pickF);iterate 4 exact rfl)|((with_reducible apply RS.cmpC);iterate 5 exact rfl)|((with_reducible apply RS.skip);iterate 2 exact rfl)|((with_reducible apply RS.nil);exact mixed;kernel_rfl)|(with_reducible first|apply W.seq|apply W.ret|apply thenK_n)|((with_reducible apply W.reg);kernel_rfl)|(((with_reducible apply RS.splitD);iterate 2 exact rfl)<;>intro _)|((((with_reducible apply RS.splitG);iterate 2 exact rfl)<;>intro _)<;>(fail_if_success cases ‹true=false›)<;>(fail_if_success cases ‹false=true›))|(((with_reducible apply W.condD);exact rfl)<;>intro _)|((((with_reducible apply W.cond);exact rfl)<;>intro _)<;>(fail_if_success cases ‹true=false›)<;>(fail_if_success cases ‹false=true›)))
  all_goals refine endsK_ret _ (.cons (.tmp rfl) .nil) ⟨rfl,?_⟩
  all_goals simp only [resultOf,Value.bool.injEq,sizedS]
  all_goals (rw [Bool.eq_iff_iff];simp at *;try omega)
def u64 (a:Int):Int:=IntKind.u64.wrap a
def holdsS (op a b:Int):Bool:=if op=16 then a == b else if op=17 then !(a == b) else if op=18 then decide (a < b) else if op=19 then decide (a≤b) else if op=20 then decide (u64 a < u64 b) else if op=21 then decide (u64 a≤u64 b) else false
def i64 (a:Int):Int:=IntKind.i64.wrap a
def quotS (op a b:Int):Int × Bool :=
  if op=6 then (if b=0∨a=-9223372036854775808∧b=-1 then (0,false) else (i64 (a.tdiv b),true))
  else if b=0 then (0,false)
  else if op=8 then (if a=-9223372036854775808∧b=-1 then (0,false) else (a.tmod b,true))
  else if op=7 then (i64 (u64 ((u64 a).tdiv (u64 b))),true)
  else (i64 ((u64 a).tmod (u64 b)),true)
def pairV (r:Int × Bool):Value:=.tuple ⟨[.int .i64 r.1,.bool r.2]⟩
@[simp] theorem pairV_free (n:Nat) (r:Int × Bool):bnd n (pairV r):=by simp [pairV]
def and64 (a b:Int):Int:=i64 ((BitVec.ofInt 64 a &&& BitVec.ofInt 64 b).toNat:Int)
def or64 (a b:Int):Int:=i64 ((BitVec.ofInt 64 a ||| BitVec.ofInt 64 b).toNat:Int)
def xor64 (a b:Int):Int:=i64 ((BitVec.ofInt 64 a ^^^ BitVec.ofInt 64 b).toNat:Int)
def sh63 (b:Int):Nat:=min (u64 (and64 b 63)).toNat 64
def reckonS (op a b:Int):Int × Bool :=
  if op=3 then (i64 (a+b),true) else if op=4 then (i64 (a - b),true) else if op=5 then (i64 (a * b),true)
  else if op=10 then (and64 a b,true) else if op=11 then (or64 a b,true) else if op=12 then (xor64 a b,true)
  else if op=13 then (i64 (a * 2 ^ sh63 b),true) else if op=14 then (a.fdiv (2 ^ sh63 b),true) else if op=15 then (i64 ((u64 a).fdiv (2 ^ sh63 b)),true)
  else if op=6∨op=8∨op=7∨op=9 then quotS op a b
  else (if holdsS op a b=true then 1 else 0,true)
def widenS (n size:Int) (s:Bool):Int :=
  if size < 1∨7 < size then n else if s=true then (i64 (n * 2 ^ min (64 - 8 * size).toNat 64)).fdiv (2 ^ min (64 - 8 * size).toNat 64)
  else i64 ((u64 (u64 n * 2 ^ min (64 - 8 * size).toNat 64)).fdiv (2 ^ min (64 - 8 * size).toNat 64))
end Go.Proofs.YtjhloakacicdiaaDoor
namespace Go.Proofs.YtjhloakacicdiaaDoor
open Go.AH
structure ArgS where
  reg:Int
  num:Int
structure InsS where
  op:Int
  dst:Int
  a:ArgS
  b:ArgS
  size:Int
  signed:Bool
  secret:Bool
  ref:Int
  off:Int
  args:List ArgS
structure TermS where
  kind:Int
  op:Int
  a:ArgS
  b:ArgS
  goto:Int
  els:Int
structure BlockS where
  ins:List InsS
  term:TermS
structure FuncS where
  name:ByteArray
  params:Int
  secret:Nat
  regs:Int
  slots:List Int
  blocks:List BlockS
structure PartS where
  kind:Int
  data:List Int
  n:Int
structure GlobS where
  name:ByteArray
  place:Int
  size:Int
  parts:List PartS
structure ProgS where
  funcs:List FuncS
  globals:List GlobS
  data:Int
  main:Int
structure SlAt {α:Type} (h:Hp) (A:Option Addr) (w:Nat) (l:List α) (R:List Value→α→Prop):Prop where
  get:∀ i x,l[i]?=some x→∃ b off cs e,A=some ⟨b,off,none⟩∧h.m b=some ⟨⟨cs⟩,e⟩∧off+i * w+w≤cs.length∧R (takeV (off+i * w) w cs) x
theorem SlAt.nil {α:Type} {h:Hp} {A:Option Addr} {w:Nat} {R:List Value→α→Prop}:SlAt h A w ([]:List α) R:=⟨fun i x hx=>by simp at hx⟩
theorem SlAt.mono {α:Type} {h H:Hp} {A:Option Addr} {w:Nat} {l:List α} {R R':List Value→α→Prop} (s:SlAt h A w l R) (hm:∀ i b,h.m i=some b→H.m i=some b) (hr:∀ cs x,R cs x→R' cs x):SlAt H A w l R' :=
  ⟨fun i x hx=>by obtain ⟨b,off,cs,e,h1,h2,h4,h5⟩:=s.get i x hx;exact ⟨b,off,cs,e,h1,hm _ _ h2,h4,hr _ _ h5⟩⟩
def argC (a:ArgS):List Value:=[.int .i64 a.reg,.int .i64 a.num]
def argR (cs:List Value) (a:ArgS):Prop:=cs=argC a
def intR (cs:List Value) (n:Int):Prop:=cs=[.int .i64 n]
def byteR (cs:List Value) (n:Int):Prop:=cs=[.int .u8 n]
def insC (x:InsS) (A:Option Addr) (c:Nat):List Value:=[.int .i64 x.op,.int .i64 x.dst,.int .i64 x.a.reg,.int .i64 x.a.num,.int .i64 x.b.reg,.int .i64 x.b.num,.int .i64 x.size,.bool x.signed,.bool x.secret,.int .i64 x.ref,.int .i64 x.off,.slice A x.args.length c]
def insR (h:Hp) (cs:List Value) (x:InsS):Prop:=∃ A c,cs=insC x A c∧SlAt h A 2 x.args argR
def termC (t:TermS):List Value:=[.int .i64 t.kind,.int .i64 t.op,.int .i64 t.a.reg,.int .i64 t.a.num,.int .i64 t.b.reg,.int .i64 t.b.num,.int .i64 t.goto,.int .i64 t.els]
def blockC (b:BlockS) (A:Option Addr) (c:Nat):List Value:=[.slice A b.ins.length c,.int .i64 b.term.kind,.int .i64 b.term.op,.int .i64 b.term.a.reg,.int .i64 b.term.a.num,.int .i64 b.term.b.reg,.int .i64 b.term.b.num,.int .i64 b.term.goto,.int .i64 b.term.els]
def blockR (h:Hp) (cs:List Value) (b:BlockS):Prop:=∃ A c,cs=blockC b A c∧SlAt h A 12 b.ins (insR h)
def funcC (f:FuncS) (A1:Option Addr) (c1:Nat) (A2:Option Addr) (c2:Nat) (A3:Option Addr) (c3:Nat):List Value:=[.string f.name,.int .i64 f.params,.slice A1 f.secret c1,.int .i64 f.regs,.slice A2 f.slots.length c2,.slice A3 f.blocks.length c3]
def funcR (h:Hp) (cs:List Value) (f:FuncS):Prop:=∃ A1 c1 A2 c2 A3 c3,cs=funcC f A1 c1 A2 c2 A3 c3∧SlAt h A2 1 f.slots intR∧SlAt h A3 9 f.blocks (blockR h)
def partC (p:PartS) (A:Option Addr) (c:Nat):List Value:=[.int .i64 p.kind,.slice A p.data.length c,.int .i64 p.n]
def partR (h:Hp) (cs:List Value) (p:PartS):Prop:=∃ A c,cs=partC p A c∧SlAt h A 1 p.data byteR
def globC (g:GlobS) (A:Option Addr) (c:Nat):List Value:=[.string g.name,.int .i64 g.place,.int .i64 g.size,.slice A g.parts.length c]
def globR (h:Hp) (cs:List Value) (g:GlobS):Prop:=∃ A c,cs=globC g A c∧SlAt h A 3 g.parts (partR h)
def progC (p:ProgS) (A1:Option Addr) (c1:Nat) (A2:Option Addr) (c2:Nat):List Value:=[.slice A1 p.funcs.length c1,.slice A2 p.globals.length c2,.int .i64 p.data,.int .i64 p.main]
def progR (h:Hp) (cs:List Value) (p:ProgS):Prop:=∃ A1 c1 A2 c2,cs=progC p A1 c1 A2 c2∧SlAt h A1 6 p.funcs (funcR h)∧SlAt h A2 4 p.globals (globR h)
section
variable {h H:Hp} (hm:∀ i b,h.m i=some b→H.m i=some b)
include hm
theorem insR_mono {cs:List Value} {x:InsS} (r:insR h cs x):insR H cs x:=by
  obtain ⟨A,c,e,s⟩:=r;exact ⟨A,c,e,s.mono hm fun _ _ h=>h⟩
theorem blockR_mono {cs:List Value} {x:BlockS} (r:blockR h cs x):blockR H cs x:=by
  obtain ⟨A,c,e,s⟩:=r;exact ⟨A,c,e,s.mono hm fun _ _ h=>insR_mono hm h⟩
theorem funcR_mono {cs:List Value} {x:FuncS} (r:funcR h cs x):funcR H cs x:=by
  obtain ⟨A1,c1,A2,c2,A3,c3,e,s,t⟩:=r;exact ⟨A1,c1,A2,c2,A3,c3,e,s.mono hm fun _ _ h=>h,t.mono hm fun _ _ h=>blockR_mono hm h⟩
theorem partR_mono {cs:List Value} {x:PartS} (r:partR h cs x):partR H cs x:=by
  obtain ⟨A,c,e,s⟩:=r;exact ⟨A,c,e,s.mono hm fun _ _ h=>h⟩
theorem globR_mono {cs:List Value} {x:GlobS} (r:globR h cs x):globR H cs x:=by
  obtain ⟨A,c,e,s⟩:=r;exact ⟨A,c,e,s.mono hm fun _ _ h=>partR_mono hm h⟩
end
theorem take_nth {cs vs:List Value} {off w j:Nat} {v:Value} (h:takeV off w cs=vs) (hv:vs[j]?=some v):cs[off+j]?=some v:=by
  rw [takeV_eq] at h
  rw [← h] at hv
  rw [List.getElem?_take] at hv
  split at hv
  · rw [List.getElem?_drop] at hv;exact hv
  · cases hv
def fitI (n:Int):Prop:=-9223372036854775808≤n∧n≤9223372036854775807
def ArgS.ok (a:ArgS):Prop:=fitI a.reg∧fitI a.num
structure InsS.ok (x:InsS):Prop where
  op:fitI x.op
  dst:fitI x.dst
  a:x.a.ok
  b:x.b.ok
  size:fitI x.size
  ref:fitI x.ref
  off:fitI x.off
  n:x.args.length≤281474976710656
  args:∀ a∈x.args,a.ok
structure TermS.ok (x:TermS):Prop where
  kind:fitI x.kind
  op:fitI x.op
  a:x.a.ok
  b:x.b.ok
  goto:fitI x.goto
  els:fitI x.els
structure BlockS.ok (x:BlockS):Prop where
  n:x.ins.length≤281474976710656
  ins:∀ a∈x.ins,a.ok
  term:x.term.ok
structure FuncS.ok (x:FuncS):Prop where
  params:fitI x.params
  regs:fitI x.regs
  nsec:x.secret≤281474976710656
  nslots:x.slots.length≤281474976710656
  slots:∀ a∈x.slots,fitI a
  nblocks:x.blocks.length≤281474976710656
  blocks:∀ a∈x.blocks,a.ok
structure PartS.ok (x:PartS):Prop where
  kind:fitI x.kind
  n:fitI x.n
  ndata:x.data.length≤281474976710656
  data:∀ a∈x.data,0≤a∧a≤255
structure GlobS.ok (x:GlobS):Prop where
  place:fitI x.place
  size:fitI x.size
  nparts:x.parts.length≤281474976710656
  parts:∀ a∈x.parts,a.ok
structure ProgS.ok (x:ProgS):Prop where
  nfuncs:x.funcs.length≤281474976710656
  funcs:∀ a∈x.funcs,a.ok
  nglobs:x.globals.length≤281474976710656
  globs:∀ a∈x.globals,a.ok
  data:fitI x.data
  main:fitI x.main
end Go.Proofs.YtjhloakacicdiaaDoor
namespace Go.Proofs.YtjhloakacicdiaaDoor
open Go.AH
attribute [local irreducible] W RS
def argsS (regs:Int) (l:List ArgS):Bool:=l.all fun a=>decide (-1≤a.reg) && decide (a.reg < regs)
theorem TF.dom {P:Program} {h h':Hp} {g:FuncId} {args:Array Value} {v:Value} (ht:(∀ i b,h.m i=some b→i < h.n)→TF P g args h v h'):TF P g args h v h':=fun ha ρ W hok=>ht hok.lt ha ρ W hok
theorem args_tf (fb fo:Nat) (fcs:List Value) (fe:TypeId) (regs:Int) (l:List ArgS) (A:Option Addr) (c:Nat) (h:Hp) (hF:h.m fb=some ⟨⟨fcs⟩,fe⟩) (hFv:fcs[fo+3]?=some (.int .i64 regs)) (hl:SlAt h A 2 l argR) (hn:l.length≤1000000000000000) :
    TF Tryd.prog 85 ⟨[.pointer (some ⟨fb,fo,none⟩),.slice A l.length c]⟩ h (.bool (argsS regs l)) h:=by
  refine TF.dom fun hd=>?_
  have hFn:=hd _ _ hF
  refine TF.still (fn:=Tryd.f85) (c:=(Tryd.f85.body.getD .skip)) Tryd.func85 (by kernel_rfl) Tryd.ntmps85 (by kernel_rfl) (by simp) ?_
  conv=>arg 2;whnf
  repeat (first|((with_reducible first|apply RS.move|apply RS.assign|apply RS.lenSl);iterate 3 exact rfl)|((with_reducible apply RS.nil);exact mixed;kernel_rfl)|(with_reducible first|apply W.seq|apply W.block|apply thenK_n)|((with_reducible apply W.reg);kernel_rfl))
  refine W.loop (X:=Nat) (fun π i=>[(0,.pointer (some ⟨fb,fo,none⟩)),(7,.slice A l.length c),(8,.int .i64 l.length),(9,.int .i64 i)]) (fun _=>h) (fun π i=>[]) (fun i=>i≤l.length∧(argsS regs l=(l.drop i).all fun a=>decide (-1≤a.reg) && decide (a.reg < regs))) (fun i=>l.length - i) [] 0 ⟨Nat.zero_le _,rfl⟩ (by (refine FitL.mk ?_ ?_ ?_ ?_<;>(repeat' (first|exact trivial|exact rfl|apply And.intro));done)) ?_
  intro π i hI
  obtain ⟨hi,hI⟩:=hI
  dsimp only at hi hI ⊢
  by_cases hlt:i < l.length
  · obtain ⟨a,ha⟩:∃ a,l[i]?=some a:=⟨_,List.getElem?_eq_getElem hlt⟩
    obtain ⟨ab,ao,acs,ae,rfl,hB,hBl,hBv⟩:=hl.get i a ha
    have hBn:=hd _ _ hB
    have hdr:l.drop i=a::l.drop (i+1):=by
      rw [List.drop_eq_getElem_cons hlt]
      rw [List.getElem?_eq_getElem hlt] at ha
      injection ha with ha
      rw [ha]
    rw [hdr,List.all_cons] at hI
    repeat' (first|((with_reducible apply RS.indexAddrS);(iterate 5 exact rfl);omega)|((with_reducible apply RS.loadNB);(iterate 3 exact rfl);exact hB;exact hBn;exact hBl;exact hBv)|((with_reducible apply RS.load1B);(iterate 3 exact rfl);exact hF;exact hFn;exact hFv)|((with_reducible first|apply RS.nilCheck|apply RS.move|apply RS.assign|apply RS.fieldAddr);iterate 3 exact rfl)|((with_reducible apply RS.pickT);iterate 4 exact rfl)|((with_reducible apply RS.pickF);iterate 4 exact rfl)|((with_reducible apply RS.cmpT);(iterate 4 exact rfl);(simp only [cmpP];omega))|((with_reducible apply RS.cmpC);iterate 5 exact rfl)|((with_reducible apply RS.add1);(iterate 4 exact rfl);omega)|((with_reducible apply RS.bin);iterate 5 exact rfl)|((with_reducible apply RS.load1);iterate 6 exact rfl)|((with_reducible apply RS.store);(iterate 5 exact rfl);exact Nat.le_of_ble_eq_true rfl;iterate 3 exact rfl)|((with_reducible apply RS.alloc);iterate 2 exact rfl)|((with_reducible apply RS.skip);iterate 2 exact rfl)|((with_reducible apply RS.nil);exact mixed;kernel_rfl)|(with_reducible first|apply W.seq|apply W.block|apply W.ret|apply W.skip|apply thenK_n|apply thenK_r|apply blockK_n|apply blockK_r|apply roundK_r)|((with_reducible apply W.reg);kernel_rfl)|((with_reducible apply W.condT);kernel_rfl;exact rfl)|(((with_reducible apply RS.splitD);iterate 2 exact rfl)<;>intro _)|((((with_reducible apply RS.splitG);iterate 2 exact rfl)<;>intro _)<;>(fail_if_success cases ‹true=false›)<;>(fail_if_success cases ‹false=true›))|(((with_reducible apply W.condD);exact rfl)<;>intro _)|((((with_reducible apply W.cond);exact rfl)<;>intro _)<;>(fail_if_success cases ‹true=false›)<;>(fail_if_success cases ‹false=true›)))
    · refine endsK_ret _ (.cons (.tmp rfl) .nil) ⟨rfl,?_⟩
      rw [hI];simp [resultOf];omega
    · refine endsK_ret _ (.cons (.tmp rfl) .nil) ⟨rfl,?_⟩
      rw [hI];simp [resultOf];omega
    · exact roundK_n (i+1) [] rfl rfl ⟨by omega,by rw [hI];simp;omega⟩ (by omega) (by (refine FitL.mk ?_ ?_ ?_ ?_<;>(repeat' (first|exact trivial|exact rfl|apply And.intro));done))
  · repeat (first|((with_reducible apply RS.assign);iterate 3 exact rfl)|((with_reducible apply RS.cmpF);(iterate 4 exact rfl);(simp only [cmpN];omega))|((with_reducible apply RS.nil);exact mixed;kernel_rfl)|(with_reducible first|apply W.seq|apply W.exit|apply W.ret|apply thenK_n|apply thenK_e|apply roundK_e)|((with_reducible apply W.reg);kernel_rfl)|((with_reducible apply W.condF);kernel_rfl;exact rfl)|((with_reducible apply blockK_hit);exact rfl))
    refine endsK_ret _ (.cons (.tmp rfl) .nil) ⟨rfl,?_⟩
    rw [hI,List.drop_eq_nil_of_le (by omega)];rfl
end Go.Proofs.YtjhloakacicdiaaDoor
namespace Go.Proofs.YtjhloakacicdiaaDoor
open Go.AH
attribute [local irreducible] W RS
theorem next1_tf (t:TermS) (hk:t.kind=1) (h:Hp):TF Tryd.prog 46 ⟨[.agg ⟨termC t⟩]⟩ h (.slice (some ⟨h.n,0,none⟩) 1 1) (h.push ⟨⟨[.int .i64 t.goto]⟩,3⟩):=by
  refine TF.ends (fn:=Tryd.f46) (c:=(Tryd.f46.body.getD .skip)) (Q:=RowQ (fun _=>[.int .i64 t.goto]) 3 1 1 h) Tryd.func46 (by kernel_rfl) Tryd.ntmps46 (by kernel_rfl) ?_ (row_end (by simp [argC]))
  conv=>arg 2;whnf
  repeat (first|((with_reducible apply RS.buildSlice);iterate 8 exact rfl)|((with_reducible first|apply RS.assign|apply RS.fieldAddr|apply RS.box);iterate 3 exact rfl)|((with_reducible apply RS.cmpT);(iterate 4 exact rfl);(simp only [cmpP];omega))|((with_reducible apply RS.load1);iterate 6 exact rfl)|((with_reducible apply RS.nil);exact mixed;kernel_rfl)|(with_reducible first|apply W.seq|apply W.block|apply W.ret|apply thenK_n|apply thenK_r|apply blockK_r)|((with_reducible apply W.reg);kernel_rfl)|((with_reducible apply W.condT);kernel_rfl;exact rfl))
  repeat' ((first|(((with_reducible apply RS.splitD);iterate 2 exact rfl)<;>intro _)|((((with_reducible apply RS.splitG);iterate 2 exact rfl)<;>intro _)<;>(fail_if_success cases ‹true=false›)<;>(fail_if_success cases ‹false=true›))|(((with_reducible apply W.condD);exact rfl)<;>intro _)|((((with_reducible apply W.cond);exact rfl)<;>intro _)<;>(fail_if_success cases ‹true=false›)<;>(fail_if_success cases ‹false=true›)))<;>repeat (fail))
  all_goals exact endsK_ret _ (.cons (.tmp rfl) .nil) ⟨rfl,1,Nat.lt_succ_self 1,rfl,rfl⟩
theorem next2_tf (t:TermS) (hk:t.kind=2) (h:Hp):TF Tryd.prog 46 ⟨[.agg ⟨termC t⟩]⟩ h (.slice (some ⟨h.n,0,none⟩) 2 2) (h.push ⟨⟨[.int .i64 t.goto,.int .i64 t.els]⟩,3⟩):=by
  refine TF.ends (fn:=Tryd.f46) (c:=(Tryd.f46.body.getD .skip)) (Q:=RowQ (fun _=>[.int .i64 t.goto,.int .i64 t.els]) 3 2 2 h) Tryd.func46 (by kernel_rfl) Tryd.ntmps46 (by kernel_rfl) ?_ (row_end (by simp [argC]))
  conv=>arg 2;whnf
  repeat (first|((with_reducible apply RS.buildSlice);iterate 8 exact rfl)|((with_reducible first|apply RS.assign|apply RS.fieldAddr|apply RS.box);iterate 3 exact rfl)|((with_reducible apply RS.cmpT);(iterate 4 exact rfl);(simp only [cmpP];omega))|((with_reducible apply RS.cmpF);(iterate 4 exact rfl);(simp only [cmpN];omega))|((with_reducible apply RS.load1);iterate 6 exact rfl)|((with_reducible apply RS.nil);exact mixed;kernel_rfl)|(with_reducible first|apply W.seq|apply W.block|apply W.ret|apply thenK_n|apply thenK_r|apply blockK_r)|((with_reducible apply W.reg);kernel_rfl)|((with_reducible apply W.condT);kernel_rfl;exact rfl)|((with_reducible apply W.condF);kernel_rfl;exact rfl))
  repeat' ((first|(((with_reducible apply RS.splitD);iterate 2 exact rfl)<;>intro _)|((((with_reducible apply RS.splitG);iterate 2 exact rfl)<;>intro _)<;>(fail_if_success cases ‹true=false›)<;>(fail_if_success cases ‹false=true›))|(((with_reducible apply W.condD);exact rfl)<;>intro _)|((((with_reducible apply W.cond);exact rfl)<;>intro _)<;>(fail_if_success cases ‹true=false›)<;>(fail_if_success cases ‹false=true›)))<;>repeat (fail))
  all_goals exact endsK_ret _ (.cons (.tmp rfl) .nil) ⟨rfl,1,Nat.lt_succ_self 1,rfl,rfl⟩
theorem next0_tf (t:TermS) (h1:t.kind≠1) (h2:t.kind≠2) (h:Hp):TF Tryd.prog 46 ⟨[.agg ⟨termC t⟩]⟩ h (.slice none 0 0) h:=by
  refine TF.still (fn:=Tryd.f46) (c:=(Tryd.f46.body.getD .skip)) Tryd.func46 (by kernel_rfl) Tryd.ntmps46 (by kernel_rfl) (by simp) ?_
  conv=>arg 2;whnf
  repeat (first|((with_reducible first|apply RS.assign|apply RS.fieldAddr|apply RS.box);iterate 3 exact rfl)|((with_reducible apply RS.cmpF);(iterate 4 exact rfl);(simp only [cmpN];omega))|((with_reducible apply RS.load1);iterate 6 exact rfl)|((with_reducible apply RS.nil);exact mixed;kernel_rfl)|(with_reducible first|apply W.seq|apply W.block|apply W.ret|apply W.skip|apply thenK_n|apply blockK_n)|((with_reducible apply W.reg);kernel_rfl)|((with_reducible apply W.condF);kernel_rfl;exact rfl))
  repeat' ((first|(((with_reducible apply RS.splitD);iterate 2 exact rfl)<;>intro _)|((((with_reducible apply RS.splitG);iterate 2 exact rfl)<;>intro _)<;>(fail_if_success cases ‹true=false›)<;>(fail_if_success cases ‹false=true›))|(((with_reducible apply W.condD);exact rfl)<;>intro _)|((((with_reducible apply W.cond);exact rfl)<;>intro _)<;>(fail_if_success cases ‹true=false›)<;>(fail_if_success cases ‹false=true›)))<;>repeat (fail))
  all_goals exact endsK_ret _ (.cons (.tmp rfl) .nil) ⟨rfl,rfl⟩
theorem treads2_tf (t:TermS) (hk:t.kind=2) (h:Hp):TF Tryd.prog 17 ⟨[.agg ⟨termC t⟩]⟩ h (.slice (some ⟨h.n,0,none⟩) 2 2) (h.push ⟨⟨argC t.a++argC t.b⟩,46⟩):=by
  refine TF.ends (fn:=Tryd.f17) (c:=(Tryd.f17.body.getD .skip)) (Q:=RowQ (fun _=>argC t.a++argC t.b) 46 2 2 h) Tryd.func17 (by kernel_rfl) Tryd.ntmps17 (by kernel_rfl) ?_ (row_end (by simp [argC]))
  conv=>arg 2;whnf
  repeat (first|((with_reducible apply RS.buildSlice);iterate 8 exact rfl)|((with_reducible first|apply RS.assign|apply RS.fieldAddr|apply RS.box);iterate 3 exact rfl)|((with_reducible apply RS.cmpT);(iterate 4 exact rfl);(simp only [cmpP];omega))|((with_reducible apply RS.load1);iterate 6 exact rfl)|((with_reducible apply RS.loadN);(iterate 5 exact rfl);exact Nat.le_of_ble_eq_true rfl)|((with_reducible apply RS.nil);exact mixed;kernel_rfl)|(with_reducible first|apply W.seq|apply W.block|apply W.ret|apply thenK_n|apply thenK_r|apply blockK_r)|((with_reducible apply W.reg);kernel_rfl)|((with_reducible apply W.condT);kernel_rfl;exact rfl))
  repeat' ((first|(((with_reducible apply RS.splitD);iterate 2 exact rfl)<;>intro _)|((((with_reducible apply RS.splitG);iterate 2 exact rfl)<;>intro _)<;>(fail_if_success cases ‹true=false›)<;>(fail_if_success cases ‹false=true›))|(((with_reducible apply W.condD);exact rfl)<;>intro _)|((((with_reducible apply W.cond);exact rfl)<;>intro _)<;>(fail_if_success cases ‹true=false›)<;>(fail_if_success cases ‹false=true›)))<;>repeat (fail))
  all_goals exact endsK_ret _ (.cons (.tmp rfl) .nil) ⟨rfl,1,Nat.lt_succ_self 1,rfl,rfl⟩
theorem treads3_tf (t:TermS) (hk:t.kind=3) (h:Hp):TF Tryd.prog 17 ⟨[.agg ⟨termC t⟩]⟩ h (.slice (some ⟨h.n,0,none⟩) 1 1) (h.push ⟨⟨argC t.a⟩,46⟩):=by
  refine TF.ends (fn:=Tryd.f17) (c:=(Tryd.f17.body.getD .skip)) (Q:=RowQ (fun _=>argC t.a) 46 1 1 h) Tryd.func17 (by kernel_rfl) Tryd.ntmps17 (by kernel_rfl) ?_ (row_end (by simp [argC]))
  conv=>arg 2;whnf
  repeat (first|((with_reducible apply RS.buildSlice);iterate 8 exact rfl)|((with_reducible first|apply RS.assign|apply RS.fieldAddr|apply RS.box);iterate 3 exact rfl)|((with_reducible apply RS.cmpT);(iterate 4 exact rfl);(simp only [cmpP];omega))|((with_reducible apply RS.cmpF);(iterate 4 exact rfl);(simp only [cmpN];omega))|((with_reducible apply RS.load1);iterate 6 exact rfl)|((with_reducible apply RS.loadN);(iterate 5 exact rfl);exact Nat.le_of_ble_eq_true rfl)|((with_reducible apply RS.nil);exact mixed;kernel_rfl)|(with_reducible first|apply W.seq|apply W.block|apply W.ret|apply thenK_n|apply thenK_r|apply blockK_r)|((with_reducible apply W.reg);kernel_rfl)|((with_reducible apply W.condT);kernel_rfl;exact rfl)|((with_reducible apply W.condF);kernel_rfl;exact rfl))
  repeat' ((first|(((with_reducible apply RS.splitD);iterate 2 exact rfl)<;>intro _)|((((with_reducible apply RS.splitG);iterate 2 exact rfl)<;>intro _)<;>(fail_if_success cases ‹true=false›)<;>(fail_if_success cases ‹false=true›))|(((with_reducible apply W.condD);exact rfl)<;>intro _)|((((with_reducible apply W.cond);exact rfl)<;>intro _)<;>(fail_if_success cases ‹true=false›)<;>(fail_if_success cases ‹false=true›)))<;>repeat (fail))
  all_goals exact endsK_ret _ (.cons (.tmp rfl) .nil) ⟨rfl,1,Nat.lt_succ_self 1,rfl,rfl⟩
theorem treads0_tf (t:TermS) (h1:t.kind≠2) (h2:t.kind≠3) (h:Hp):TF Tryd.prog 17 ⟨[.agg ⟨termC t⟩]⟩ h (.slice none 0 0) h:=by
  refine TF.still (fn:=Tryd.f17) (c:=(Tryd.f17.body.getD .skip)) Tryd.func17 (by kernel_rfl) Tryd.ntmps17 (by kernel_rfl) (by simp) ?_
  conv=>arg 2;whnf
  repeat (first|((with_reducible first|apply RS.assign|apply RS.fieldAddr|apply RS.box);iterate 3 exact rfl)|((with_reducible apply RS.cmpF);(iterate 4 exact rfl);(simp only [cmpN];omega))|((with_reducible apply RS.load1);iterate 6 exact rfl)|((with_reducible apply RS.nil);exact mixed;kernel_rfl)|(with_reducible first|apply W.seq|apply W.block|apply W.ret|apply W.skip|apply thenK_n|apply blockK_n)|((with_reducible apply W.reg);kernel_rfl)|((with_reducible apply W.condF);kernel_rfl;exact rfl))
  repeat' ((first|(((with_reducible apply RS.splitD);iterate 2 exact rfl)<;>intro _)|((((with_reducible apply RS.splitG);iterate 2 exact rfl)<;>intro _)<;>(fail_if_success cases ‹true=false›)<;>(fail_if_success cases ‹false=true›))|(((with_reducible apply W.condD);exact rfl)<;>intro _)|((((with_reducible apply W.cond);exact rfl)<;>intro _)<;>(fail_if_success cases ‹true=false›)<;>(fail_if_success cases ‹false=true›)))<;>repeat (fail))
  all_goals exact endsK_ret _ (.cons (.tmp rfl) .nil) ⟨rfl,rfl⟩
theorem reads2_tf (x:InsS) (A:Option Addr) (c:Nat) (hk:twoS x.op=true∨x.op=27) (h:Hp):TF Tryd.prog 50 ⟨[.agg ⟨insC x A c⟩]⟩ h (.slice (some ⟨h.n,0,none⟩) 2 2) (h.push ⟨⟨argC x.a++argC x.b⟩,46⟩):=by
  refine TF.ends (fn:=Tryd.f50) (c:=(Tryd.f50.body.getD .skip)) (Q:=RowQ (fun _=>argC x.a++argC x.b) 46 2 2 h) Tryd.func50 (by kernel_rfl) Tryd.ntmps50 (by kernel_rfl) ?_ (row_end (by simp [argC]))
  conv=>arg 2;whnf
  repeat' (first|((with_reducible apply RS.buildSlice);iterate 8 exact rfl)|((with_reducible apply RS.callP);(iterate 3 exact rfl);exact fun H=>(two_tf _ H);exact Nm_free (by simp))|((with_reducible first|apply RS.move|apply RS.assign|apply RS.fieldAddr|apply RS.box);iterate 3 exact rfl)|((with_reducible apply RS.pickT);iterate 4 exact rfl)|((with_reducible apply RS.pickF);iterate 4 exact rfl)|((with_reducible apply RS.cmpC);iterate 5 exact rfl)|((with_reducible apply RS.load1);iterate 6 exact rfl)|((with_reducible apply RS.loadN);(iterate 5 exact rfl);exact Nat.le_of_ble_eq_true rfl)|((with_reducible apply RS.skip);iterate 2 exact rfl)|((with_reducible apply RS.nil);exact mixed;kernel_rfl)|(with_reducible first|apply W.seq|apply W.block|apply W.ret|apply W.skip|apply thenK_n|apply thenK_r|apply blockK_n|apply blockK_r)|((with_reducible apply W.reg);kernel_rfl)|((with_reducible apply W.condT);kernel_rfl;exact rfl)|(((with_reducible apply RS.splitD);iterate 2 exact rfl)<;>intro _)|((((with_reducible apply RS.splitG);iterate 2 exact rfl)<;>intro _)<;>(fail_if_success cases ‹true=false›)<;>(fail_if_success cases ‹false=true›))|(((with_reducible apply W.condD);exact rfl)<;>intro _)|((((with_reducible apply W.cond);exact rfl)<;>intro _)<;>(fail_if_success cases ‹true=false›)<;>(fail_if_success cases ‹false=true›)))
  all_goals first
    | exact endsK_ret _ (.cons (.tmp rfl) .nil) ⟨rfl,1,Nat.lt_succ_self 1,rfl,rfl⟩
    | (exfalso;simp only [twoS,Bool.and_eq_true,decide_eq_true_eq,Bool.and_eq_false_iff,decide_eq_false_iff_not] at *;omega)
theorem reads1_tf (x:InsS) (A:Option Addr) (c:Nat) (h0:twoS x.op=false) (h1:¬ (23≤x.op∧x.op≤25)) (h2:¬ (27≤x.op∧x.op≤29)) (h:Hp):TF Tryd.prog 50 ⟨[.agg ⟨insC x A c⟩]⟩ h (.slice (some ⟨h.n,0,none⟩) 1 1) (h.push ⟨⟨argC x.a⟩,46⟩):=by
  refine TF.ends (fn:=Tryd.f50) (c:=(Tryd.f50.body.getD .skip)) (Q:=RowQ (fun _=>argC x.a) 46 1 1 h) Tryd.func50 (by kernel_rfl) Tryd.ntmps50 (by kernel_rfl) ?_ (row_end (by simp [argC]))
  conv=>arg 2;whnf
  repeat' (first|((with_reducible apply RS.callP);(iterate 3 exact rfl);exact fun H=>(two_tf _ H);exact Nm_free (by simp))|((with_reducible apply RS.buildSlice);iterate 8 exact rfl)|((with_reducible first|apply RS.move|apply RS.assign|apply RS.fieldAddr|apply RS.box);iterate 3 exact rfl)|((with_reducible apply RS.pickT);iterate 4 exact rfl)|((with_reducible apply RS.pickF);iterate 4 exact rfl)|((with_reducible apply RS.cmpF);(iterate 4 exact rfl);(simp only [cmpN];omega))|((with_reducible apply RS.load1);iterate 6 exact rfl)|((with_reducible apply RS.loadN);(iterate 5 exact rfl);exact Nat.le_of_ble_eq_true rfl)|((with_reducible apply RS.skip);iterate 2 exact rfl)|((with_reducible apply RS.nil);exact mixed;kernel_rfl)|(with_reducible first|apply W.seq|apply W.block|apply W.ret|apply W.skip|apply thenK_n|apply thenK_r|apply blockK_n|apply blockK_r)|((with_reducible apply W.reg);kernel_rfl)|((with_reducible apply W.condT);kernel_rfl;exact rfl)|((with_reducible apply W.condF);kernel_rfl;exact rfl)|(((with_reducible apply RS.splitD);iterate 2 exact rfl)<;>intro _)|((((with_reducible apply RS.splitG);iterate 2 exact rfl)<;>intro _)<;>(fail_if_success cases ‹true=false›)<;>(fail_if_success cases ‹false=true›))|(((with_reducible apply W.condD);exact rfl)<;>intro _)|((((with_reducible apply W.cond);exact rfl)<;>intro _)<;>(fail_if_success cases ‹true=false›)<;>(fail_if_success cases ‹false=true›)))
  all_goals first
    | exact endsK_ret _ (.cons (.tmp rfl) .nil) ⟨rfl,1,Nat.lt_succ_self 1,rfl,rfl⟩
    | (exfalso;simp only [twoS,Bool.and_eq_true,decide_eq_true_eq,Bool.and_eq_false_iff,decide_eq_false_iff_not] at *;omega)
theorem reads0_tf (x:InsS) (A:Option Addr) (c:Nat) (h0:23≤x.op∧x.op≤25) (h:Hp):TF Tryd.prog 50 ⟨[.agg ⟨insC x A c⟩]⟩ h (.slice none 0 0) h:=by
  have ht:twoS x.op=false:=by unfold twoS;rw [Bool.eq_false_iff];simp;omega
  refine TF.still (fn:=Tryd.f50) (c:=(Tryd.f50.body.getD .skip)) Tryd.func50 (by kernel_rfl) Tryd.ntmps50 (by kernel_rfl) (by simp) ?_
  conv=>arg 2;whnf
  repeat' (first|((with_reducible apply RS.callP);(iterate 3 exact rfl);exact fun H=>(two_tf _ H);exact Nm_free (by simp))|((with_reducible apply RS.buildSlice);iterate 8 exact rfl)|((with_reducible first|apply RS.move|apply RS.assign|apply RS.fieldAddr|apply RS.box);iterate 3 exact rfl)|((with_reducible apply RS.pickT);iterate 4 exact rfl)|((with_reducible apply RS.pickF);iterate 4 exact rfl)|((with_reducible apply RS.cmpT);(iterate 4 exact rfl);(simp only [cmpP];omega))|((with_reducible apply RS.cmpF);(iterate 4 exact rfl);(simp only [cmpN];omega))|((with_reducible apply RS.cmpC);iterate 5 exact rfl)|((with_reducible apply RS.load1);iterate 6 exact rfl)|((with_reducible apply RS.loadN);(iterate 5 exact rfl);exact Nat.le_of_ble_eq_true rfl)|((with_reducible apply RS.skip);iterate 2 exact rfl)|((with_reducible apply RS.nil);exact mixed;kernel_rfl)|(with_reducible first|apply W.seq|apply W.block|apply W.ret|apply thenK_n|apply thenK_r|apply blockK_r)|((with_reducible apply W.reg);kernel_rfl)|((with_reducible apply W.condT);kernel_rfl;exact rfl)|((with_reducible apply W.condF);kernel_rfl;exact rfl)|(((with_reducible apply RS.splitD);iterate 2 exact rfl)<;>intro _)|((((with_reducible apply RS.splitG);iterate 2 exact rfl)<;>intro _)<;>(fail_if_success cases ‹true=false›)<;>(fail_if_success cases ‹false=true›))|(((with_reducible apply W.condD);exact rfl)<;>intro _)|((((with_reducible apply W.cond);exact rfl)<;>intro _)<;>(fail_if_success cases ‹true=false›)<;>(fail_if_success cases ‹false=true›)))
  all_goals first
    | exact endsK_ret _ (.cons (.tmp rfl) .nil) ⟨rfl,rfl⟩
    | (exfalso;simp only [twoS,Bool.and_eq_true,decide_eq_true_eq,Bool.and_eq_false_iff,decide_eq_false_iff_not] at *;omega)
theorem TF.withArgs {P:Program} {h h':Hp} {g:FuncId} {args:Array Value} {v:Value} (ht:(∀ x∈args,bnd h.n x)→TF P g args h v h'):TF P g args h v h':=fun ha=>ht ha ha
theorem argsBnd {x:InsS} {A:Option Addr} {c n:Nat} (h:∀ v∈(⟨[.agg ⟨insC x A c⟩]⟩:Array Value),bnd n v):∀ m,bnd n (.slice A m c):=by
  intro m
  have h1:=h (.agg ⟨insC x A c⟩) (by simp)
  simp only [bnd_agg] at h1
  have h2:=h1 (.slice A x.args.length c) (by simp [insC])
  cases A with
  | none=>simp
  | some a=>simpa using h2
theorem reads28_tf (x:InsS) (A:Option Addr) (c:Nat) (h0:x.op=28) (h:Hp):TF Tryd.prog 50 ⟨[.agg ⟨insC x A c⟩]⟩ h (.slice A x.args.length c) h:=by
  have ht:twoS x.op=false:=by unfold twoS;rw [Bool.eq_false_iff];simp;omega
  refine TF.withArgs fun ha=>?_
  refine TF.ends (fn:=Tryd.f50) (c:=(Tryd.f50.body.getD .skip)) (Q:=fun vs h'=>h'.base=h∧resultOf vs=.slice A x.args.length c) Tryd.func50 (by kernel_rfl) Tryd.ntmps50 (by kernel_rfl) ?_ (fun vs h' w hq hold htf=>?_)
  · conv=>arg 2;whnf
    repeat (first|((with_reducible first|apply RS.assign|apply RS.fieldAddr|apply RS.box);iterate 3 exact rfl)|((with_reducible apply RS.cmpT);(iterate 4 exact rfl);(simp only [cmpP];omega))|((with_reducible apply RS.load1);iterate 6 exact rfl)|((with_reducible apply RS.nil);exact mixed;kernel_rfl)|(with_reducible first|apply W.seq|apply W.block|apply W.ret|apply thenK_n|apply thenK_r|apply blockK_r)|((with_reducible apply W.reg);kernel_rfl)|((with_reducible apply W.condT);kernel_rfl;exact rfl))
    repeat' ((first|(((with_reducible apply RS.splitD);iterate 2 exact rfl)<;>intro _)|((((with_reducible apply RS.splitG);iterate 2 exact rfl)<;>intro _)<;>(fail_if_success cases ‹true=false›)<;>(fail_if_success cases ‹false=true›))|(((with_reducible apply W.condD);exact rfl)<;>intro _)|((((with_reducible apply W.cond);exact rfl)<;>intro _)<;>(fail_if_success cases ‹true=false›)<;>(fail_if_success cases ‹false=true›)))<;>repeat (fail))
    all_goals first
      | exact endsK_ret _ (.cons (.tmp rfl) .nil) ⟨rfl,rfl⟩
      | (exfalso;simp only [twoS,Bool.and_eq_true,decide_eq_true_eq,Bool.and_eq_false_iff,decide_eq_false_iff_not] at *;omega)
  · obtain ⟨q1,q2⟩:=hq
    rw [q2] at htf
    have hb:=argsBnd ha x.args.length
    refine (htf (bnd_mono ?_ _ hb)).trunc hb (fun i hi=>hold i hi q1)
    have:=w.bn
    rw [q1] at this;exact this
def argsC (l:List ArgS):List Value:=l.flatMap argC
theorem argsC_length (l:List ArgS):(argsC l).length=l.length * 2:=by
  induction l with
  | nil=>rfl
  | cons a l ih=>simp only [argsC,List.flatMap_cons,List.length_append,List.length_cons] at ih ⊢;rw [ih];simp [argC];omega
theorem argsC_at {l:List ArgS} {i:Nat} {a:ArgS} (h:l[i]?=some a):takeV (0+i * 2) 2 (argsC l)=argC a:=by
  induction l generalizing i with
  | nil=>simp at h
  | cons u l ih =>
    cases i with
    | zero =>
      simp only [List.getElem?_cons_zero,Option.some.injEq] at h
      subst h
      rw [takeV_eq]
      simp [argsC,argC]
    | succ i =>
      have h1:=ih (i:=i) (by simpa using h)
      rw [takeV_eq] at h1 ⊢
      have e:argsC (u::l)=argC u++argsC l:=rfl
      have e2:0+(i+1) * 2=(argC u).length+(0+i * 2):=by show _=2+_;omega
      rw [e,e2,← List.drop_drop,List.drop_left]
      exact h1
theorem rows_eq {cs:List Value} {off:Nat}:∀ {l:List ArgS},off+l.length * 2≤cs.length→(∀ i a,l[i]?=some a→takeV (off+i * 2) 2 cs=argC a)→takeV off (l.length * 2) cs=argsC l:=by
  intro l
  induction l generalizing off with
  | nil=>intro _ _;rw [takeV_eq];simp [argsC]
  | cons u l ih =>
    intro hl h
    have h0:=h 0 u rfl
    simp only [List.length_cons] at hl
    have h1:=ih (off:=off+2) (by omega) (fun i a ha=>by have:=h (i+1) a (by simpa using ha);rw [show off+2+i * 2=off+(i+1) * 2 by omega];exact this)
    rw [takeV_eq] at h0 h1 ⊢
    rw [show off+0 * 2=off by omega] at h0
    have e:argsC (u::l)=argC u++argsC l:=rfl
    rw [e,← h0,← h1,List.length_cons,show (l.length+1) * 2=2+l.length * 2 by omega,List.take_add,List.drop_drop]
def cap29 (x:InsS):Nat:=if 0 < x.args.length then capOf 2 else 1
theorem reads29_tf (x:InsS) (A:Option Addr) (c:Nat) (h0:x.op=29) (hn:x.args.length≤1000000000) (h:Hp) (hl:SlAt h A 2 x.args argR):TF Tryd.prog 50 ⟨[.agg ⟨insC x A c⟩]⟩ h (.slice (some ⟨h.n,0,none⟩) (1+x.args.length) (cap29 x)) (h.push ⟨⟨argsC (x.a::x.args)⟩,46⟩):=by
  have ht:twoS x.op=false:=by unfold twoS;rw [Bool.eq_false_iff];simp;omega
  have hfree:∀ v∈argsC (x.a::x.args),bnd h.n v:=by
    intro v hv
    simp only [argsC,List.mem_flatMap,argC,List.mem_cons,List.not_mem_nil,or_false] at hv
    obtain ⟨a,_,rfl|rfl⟩:=hv<;>simp
  refine TF.dom fun hd=>?_
  by_cases hpos:0 < x.args.length
  · have hcap:cap29 x=capOf 2:=by unfold cap29;rw [if_pos hpos]
    rw [hcap]
    obtain ⟨a0,ha0⟩:∃ a,x.args[0]?=some a:=⟨_,List.getElem?_eq_getElem hpos⟩
    obtain ⟨b,off,cs,e,rfl,hB,_,_⟩:=hl.get 0 a0 ha0
    have hBn:=hd _ _ hB
    have hget:∀ i a,x.args[i]?=some a→off+i * 2+2≤cs.length∧takeV (off+i * 2) 2 cs=argC a:=by
      intro i a hi
      obtain ⟨b',off',cs',e',q1,q2,q4,q5⟩:=hl.get i a hi
      injection q1 with q1
      injection q1 with e1 e2
      subst e1;subst e2
      rw [hB] at q2
      injection q2 with q2
      injection q2 with q2 q3
      injection q2 with q2
      subst q2
      exact ⟨q4,q5⟩
    have hBl:off+x.args.length * 2≤cs.length:=by
      have:=(hget (x.args.length - 1) _ (List.getElem?_eq_getElem (by omega))).1
      omega
    have hrow:=rows_eq hBl fun i a hi=>(hget i a hi).2
    refine TF.ends (fn:=Tryd.f50) (c:=(Tryd.f50.body.getD .skip)) (Q:=RowQ (fun _=>argsC (x.a::x.args)) 46 (1+x.args.length) (capOf 2) h) Tryd.func50 (by kernel_rfl) Tryd.ntmps50 (by kernel_rfl) ?_ (row_end hfree)
    conv=>arg 2;whnf
    repeat (first|((with_reducible apply RS.buildSlice);iterate 8 exact rfl)|((with_reducible apply RS.appendFull);(iterate 9 exact rfl);decide;exact hB;exact hBn;exact hBl;exact hpos;(show (1+_) * 16≤_;omega);omega)|((with_reducible first|apply RS.assign|apply RS.fieldAddr|apply RS.box);iterate 3 exact rfl)|((with_reducible apply RS.cmpT);(iterate 4 exact rfl);(simp only [cmpP];omega))|((with_reducible apply RS.cmpF);(iterate 4 exact rfl);(simp only [cmpN];omega))|((with_reducible apply RS.load1);iterate 6 exact rfl)|((with_reducible apply RS.loadN);(iterate 5 exact rfl);exact Nat.le_of_ble_eq_true rfl)|((with_reducible apply RS.nil);exact mixed;kernel_rfl)|(with_reducible first|apply W.seq|apply W.block|apply W.ret|apply thenK_n|apply thenK_r|apply blockK_r)|((with_reducible apply W.reg);kernel_rfl)|((with_reducible apply W.condT);kernel_rfl;exact rfl)|((with_reducible apply W.condF);kernel_rfl;exact rfl))
    repeat' ((first|(((with_reducible apply RS.splitD);iterate 2 exact rfl)<;>intro _)|((((with_reducible apply RS.splitG);iterate 2 exact rfl)<;>intro _)<;>(fail_if_success cases ‹true=false›)<;>(fail_if_success cases ‹false=true›))|(((with_reducible apply W.condD);exact rfl)<;>intro _)|((((with_reducible apply W.cond);exact rfl)<;>intro _)<;>(fail_if_success cases ‹true=false›)<;>(fail_if_success cases ‹false=true›)))<;>repeat (fail))
    all_goals first
      | (refine endsK_ret _ (.cons (.tmp rfl) .nil) ⟨rfl, 2, Nat.lt_succ_self 2, ?_, rfl⟩
         show some (Blk.mk ⟨argC x.a++takeV off (x.args.length * 2) cs⟩ 46)=some (Blk.mk ⟨argsC (x.a::x.args)⟩ 46)
         rw [hrow];rfl)
      | (exfalso;simp only [twoS,Bool.and_eq_true,decide_eq_true_eq,Bool.and_eq_false_iff,decide_eq_false_iff_not] at *;omega)
  · have hcap:cap29 x=1:=by unfold cap29;rw [if_neg hpos]
    rw [hcap]
    have hzero:x.args.length=0:=by omega
    have hnil:x.args=[]:=List.eq_nil_of_length_eq_zero hzero
    rw [hzero,Nat.add_zero,hnil]
    refine TF.ends (fn:=Tryd.f50) (c:=(Tryd.f50.body.getD .skip)) (Q:=RowQ (fun _=>argsC [x.a]) 46 1 1 h) Tryd.func50 (by kernel_rfl) Tryd.ntmps50 (by kernel_rfl) ?_ (row_end (by intro v hv;exact hfree v (by rw [hnil];exact hv)))
    conv=>arg 2;whnf
    repeat (first|((with_reducible apply RS.buildSlice);iterate 8 exact rfl)|((with_reducible apply RS.appendNone);(iterate 4 exact rfl);exact hzero;decide;exact Nat.le_refl _;kernel_rfl)|((with_reducible first|apply RS.assign|apply RS.fieldAddr|apply RS.box);iterate 3 exact rfl)|((with_reducible apply RS.cmpT);(iterate 4 exact rfl);(simp only [cmpP];omega))|((with_reducible apply RS.cmpF);(iterate 4 exact rfl);(simp only [cmpN];omega))|((with_reducible apply RS.load1);iterate 6 exact rfl)|((with_reducible apply RS.loadN);(iterate 5 exact rfl);exact Nat.le_of_ble_eq_true rfl)|((with_reducible apply RS.nil);exact mixed;kernel_rfl)|(with_reducible first|apply W.seq|apply W.block|apply W.ret|apply thenK_n|apply thenK_r|apply blockK_r)|((with_reducible apply W.reg);kernel_rfl)|((with_reducible apply W.condT);kernel_rfl;exact rfl)|((with_reducible apply W.condF);kernel_rfl;exact rfl))
    repeat' ((first|(((with_reducible apply RS.splitD);iterate 2 exact rfl)<;>intro _)|((((with_reducible apply RS.splitG);iterate 2 exact rfl)<;>intro _)<;>(fail_if_success cases ‹true=false›)<;>(fail_if_success cases ‹false=true›))|(((with_reducible apply W.condD);exact rfl)<;>intro _)|((((with_reducible apply W.cond);exact rfl)<;>intro _)<;>(fail_if_success cases ‹true=false›)<;>(fail_if_success cases ‹false=true›)))<;>repeat (fail))
    all_goals first
      | exact endsK_ret _ (.cons (.tmp rfl) .nil) ⟨rfl,1,Nat.lt_succ_self 1,rfl,rfl⟩
      | (exfalso;simp only [twoS,Bool.and_eq_true,decide_eq_true_eq,Bool.and_eq_false_iff,decide_eq_false_iff_not] at *;omega)
end Go.Proofs.YtjhloakacicdiaaDoor
namespace Go.Proofs.YtjhloakacicdiaaDoor
open Go.AH
attribute [local irreducible] W RS
def readsS (x:InsS):List ArgS:=if x.op=28 then x.args else if x.op=29 then x.a::x.args else if twoS x.op=true∨x.op=27 then [x.a,x.b] else if 23≤x.op∧x.op≤25 then [] else [x.a]
def paramsAt (p:ProgS) (r:Int):Option Int:=if 0≤r then (p.funcs[r.toNat]?).map (·.params) else none
def rightT (p:ProgS) (f:FuncS) (x:InsS):Bool :=
  if x.op=22∨x.op=26 then decide (0≤x.dst) && sizedS x.size
  else if x.op=27 then x.dst == -1 && sizedS x.size
  else if x.op=23 then decide (0≤x.dst) && decide (0≤x.ref) && decide (x.ref < p.globals.length)
  else if x.op=24 then decide (0≤x.dst) && decide (0≤x.ref) && decide (x.ref < f.slots.length)
  else if x.op=25 then decide (0≤x.dst) && decide (0≤x.ref) && decide (x.ref < p.funcs.length)
  else if x.op=28 then paramsAt p x.ref == some (x.args.length:Int)
  else if x.op=29 then decide (x.args.length≤6)
  else if x.op=30 then x.dst == -1
  else decide (0≤x.dst)
def rightS (p:ProgS) (f:FuncS) (x:InsS):Bool:=decide (1≤x.op) && decide (x.op≤30) && argsS f.regs (readsS x) && decide (-1≤x.dst) && decide (x.dst < f.regs) && rightT p f x
theorem sees_up {h:SH} {vl:List Nat} {H:Hp} (hH:Sees h true vl H) (hd:∀ i b,h.base.m i=some b→i < h.base.n):∀ i b,h.base.m i=some b→H.m i=some b:=fun i b hb=>by rw [hH.b rfl i (hd i b hb)];exact hb
theorem local_args {h:SH} {H:Hp} {k:Nat} {l:List ArgS} {e:TypeId} (hm:H.m (h.π k)=some ⟨⟨argsC l⟩,e⟩):SlAt H (some ⟨h.π k,0,none⟩) 2 l argR :=
  ⟨fun i a ha=>⟨h.π k,0,argsC l,e,rfl,hm,by rw [argsC_length];have:=(List.getElem?_eq_some_iff.1 ha).1;omega,argsC_at ha⟩⟩
structure FuncAt (h:Hp) (fb fo:Nat) (f:FuncS) (fcs:List Value) (fe:TypeId) (A1:Option Addr) (c1:Nat) (A2:Option Addr) (c2:Nat) (A3:Option Addr) (c3:Nat):Prop where
  m:h.m fb=some ⟨⟨fcs⟩,fe⟩
  c:∀ j v,(funcC f A1 c1 A2 c2 A3 c3)[j]?=some v→fcs[fo+j]?=some v
  sl:SlAt h A2 1 f.slots intR
  bl:SlAt h A3 9 f.blocks (blockR h)
structure ProgAt (h:Hp) (pb:Nat) (p:ProgS) (pe:TypeId) (A1:Option Addr) (c1:Nat) (A2:Option Addr) (c2:Nat):Prop where
  m:h.m pb=some ⟨⟨progC p A1 c1 A2 c2⟩,pe⟩
  fs:SlAt h A1 6 p.funcs (funcR h)
  gs:SlAt h A2 4 p.globals (globR h)
theorem right28_tf (p:ProgS) (f:FuncS) (x:InsS) (pb:Nat) (pe:TypeId) (P1:Option Addr) (d1:Nat) (P2:Option Addr) (d2:Nat) (fb fo:Nat) (fcs:List Value) (fe:TypeId) (F1:Option Addr) (c1:Nat) (F2:Option Addr) (c2:Nat) (F3:Option Addr) (c3:Nat) (A:Option Addr) (c:Nat) (h:Hp)
    (hp:ProgAt h pb p pe P1 d1 P2 d2) (hf:FuncAt h fb fo f fcs fe F1 c1 F2 c2 F3 c3) (hl:SlAt h A 2 x.args argR) (hn:x.args.length≤1000000000000000) (h28:x.op=28) :
    TF Tryd.prog 63 ⟨[.pointer (some ⟨pb,0,none⟩),.pointer (some ⟨fb,fo,none⟩),.agg ⟨insC x A c⟩]⟩ h (.bool (rightS p f x)) h:=by
  refine TF.dom fun hd=>?_
  have hpn:=hd _ _ hp.m
  have hfn:=hd _ _ hf.m
  refine TF.still (fn:=Tryd.f63) (c:=(Tryd.f63.body.getD .skip)) Tryd.func63 (by kernel_rfl) Tryd.ntmps63 (by kernel_rfl) (by simp) ?_
  conv=>arg 2;whnf
  have hrT:rightT p f x=(paramsAt p x.ref == some (x.args.length:Int)):=by
    unfold rightT
    rw [if_neg (by omega),if_neg (by omega),if_neg (by omega),if_neg (by omega),if_neg (by omega),if_pos h28]
  have hrd:readsS x=x.args:=by unfold readsS;rw [if_pos h28]
  by_cases hr:0≤x.ref∧x.ref < p.funcs.length
  · obtain ⟨g,hg⟩:∃ g,p.funcs[x.ref.toNat]?=some g:=⟨_,List.getElem?_eq_getElem (by omega)⟩
    obtain ⟨gb,go,gcs,ge,rfl,hG,hGl,hGv⟩:=hp.fs.get _ g hg
    have hGn:=hd _ _ hG
    obtain ⟨G1,k1,G2,k2,G3,k3,hgc,_,_⟩:=hGv
    have hgp:=take_nth (j:=1) hgc rfl
    have hpa:paramsAt p x.ref=some g.params:=by unfold paramsAt;rw [if_pos hr.1,hg];rfl
    repeat' (first|((with_reducible apply RS.callP);(iterate 3 exact rfl);exact fun H=>reads28_tf x A c h28 H;exact Nm_any)|((with_reducible apply RS.callR true []);(iterate 3 exact rfl);exact fun H hH=>args_tf fb fo fcs fe f.regs x.args A c H (sees_up hH hd _ _ hf.m) (hf.c 3 _ rfl) (hl.mono (sees_up hH hd) fun _ _ h=>h) hn;exact Nm_free (by simp))|((with_reducible apply RS.load1B);(iterate 3 exact rfl);first|exact hf.m;exact hfn;(first|exact hf.c 3 _ rfl|exact hf.c 4 _ rfl)|exact hp.m;exact hpn;exact rfl|exact hG;exact hGn;exact hgp)|((with_reducible apply RS.indexAddrS);(iterate 4 exact rfl);exact (Int.toNat_of_nonneg hr.1).symm;omega)|((with_reducible first|apply RS.nilCheck|apply RS.move|apply RS.assign|apply RS.lenSl|apply RS.not|apply RS.fieldAddr|apply RS.box);iterate 3 exact rfl)|((with_reducible apply RS.pickT);iterate 4 exact rfl)|((with_reducible apply RS.pickF);iterate 4 exact rfl)|((with_reducible apply RS.cmpT);(iterate 4 exact rfl);(simp only [cmpP];omega))|((with_reducible apply RS.cmpF);(iterate 4 exact rfl);(simp only [cmpN];omega))|((with_reducible apply RS.cmpC);iterate 5 exact rfl)|((with_reducible apply RS.bin);iterate 5 exact rfl)|((with_reducible apply RS.load1);iterate 6 exact rfl)|((with_reducible apply RS.loadN);(iterate 5 exact rfl);exact Nat.le_of_ble_eq_true rfl)|((with_reducible apply RS.skip);iterate 2 exact rfl)|((with_reducible apply RS.nil);exact mixed;kernel_rfl)|(with_reducible first|apply W.seq|apply W.block|apply W.ret|apply W.skip|apply thenK_n|apply thenK_r|apply blockK_n|apply blockK_r)|((with_reducible apply W.reg);kernel_rfl)|((with_reducible apply W.condT);kernel_rfl;exact rfl)|((with_reducible apply W.condF);kernel_rfl;exact rfl)|(((with_reducible apply RS.splitD);iterate 2 exact rfl)<;>intro _)|((((with_reducible apply RS.splitG);iterate 2 exact rfl)<;>intro _)<;>(fail_if_success cases ‹true=false›)<;>(fail_if_success cases ‹false=true›))|(((with_reducible apply W.condD);exact rfl)<;>intro _)|((((with_reducible apply W.cond);exact rfl)<;>intro _)<;>(fail_if_success cases ‹true=false›)<;>(fail_if_success cases ‹false=true›)))
    all_goals refine endsK_ret _ (.cons (.tmp rfl) .nil) ⟨rfl,?_⟩
    all_goals simp only [resultOf,Value.bool.injEq,rightS,hrd,hrT,hpa]
    all_goals simp only [Bool.not_eq_true',Bool.not_eq_false'] at *
    all_goals simp [*]
    all_goals first|omega|(rw [Bool.eq_iff_iff];simp only [Bool.and_eq_true,decide_eq_true_eq,beq_iff_eq];omega)
  · have hpa:paramsAt p x.ref=none:=by
      unfold paramsAt
      split
      · rw [List.getElem?_eq_none (by omega)];rfl
      · rfl
    repeat' (first|((with_reducible apply RS.callP);(iterate 3 exact rfl);exact fun H=>reads28_tf x A c h28 H;exact Nm_any)|((with_reducible apply RS.callR true []);(iterate 3 exact rfl);exact fun H hH=>args_tf fb fo fcs fe f.regs x.args A c H (sees_up hH hd _ _ hf.m) (hf.c 3 _ rfl) (hl.mono (sees_up hH hd) fun _ _ h=>h) hn;exact Nm_free (by simp))|((with_reducible apply RS.load1B);(iterate 3 exact rfl);first|exact hf.m;exact hfn;(first|exact hf.c 3 _ rfl|exact hf.c 4 _ rfl)|exact hp.m;exact hpn;exact rfl)|((with_reducible first|apply RS.nilCheck|apply RS.move|apply RS.assign|apply RS.lenSl|apply RS.not|apply RS.fieldAddr|apply RS.box);iterate 3 exact rfl)|((with_reducible apply RS.pickT);iterate 4 exact rfl)|((with_reducible apply RS.pickF);iterate 4 exact rfl)|((with_reducible apply RS.cmpT);(iterate 4 exact rfl);(simp only [cmpP];omega))|((with_reducible apply RS.cmpF);(iterate 4 exact rfl);(simp only [cmpN];omega))|((with_reducible apply RS.cmpC);iterate 5 exact rfl)|((with_reducible apply RS.bin);iterate 5 exact rfl)|((with_reducible apply RS.load1);iterate 6 exact rfl)|((with_reducible apply RS.loadN);(iterate 5 exact rfl);exact Nat.le_of_ble_eq_true rfl)|((with_reducible apply RS.skip);iterate 2 exact rfl)|((with_reducible apply RS.nil);exact mixed;kernel_rfl)|(with_reducible first|apply W.seq|apply W.block|apply W.ret|apply W.skip|apply thenK_n|apply thenK_r|apply blockK_n|apply blockK_r)|((with_reducible apply W.reg);kernel_rfl)|((with_reducible apply W.condT);kernel_rfl;exact rfl)|((with_reducible apply W.condF);kernel_rfl;exact rfl)|(((with_reducible apply RS.splitD);iterate 2 exact rfl)<;>intro _)|((((with_reducible apply RS.splitG);iterate 2 exact rfl)<;>intro _)<;>(fail_if_success cases ‹true=false›)<;>(fail_if_success cases ‹false=true›))|(((with_reducible apply W.condD);exact rfl)<;>intro _)|((((with_reducible apply W.cond);exact rfl)<;>intro _)<;>(fail_if_success cases ‹true=false›)<;>(fail_if_success cases ‹false=true›)))
    all_goals refine endsK_ret _ (.cons (.tmp rfl) .nil) ⟨rfl,?_⟩
    all_goals simp only [resultOf,Value.bool.injEq,rightS,hrd,hrT,hpa]
    all_goals simp only [Bool.not_eq_true',Bool.not_eq_false'] at *
    all_goals simp [*]
    all_goals first|omega|(rw [Bool.eq_iff_iff];simp only [Bool.and_eq_true,decide_eq_true_eq,beq_iff_eq];omega)
theorem args_tfn (n fb fo:Nat) (fcs:List Value) (fe:TypeId) (regs:Int) (l:List ArgS) (A:Option Addr) (c:Nat) (h:Hp) (hlen:n=l.length) (hF:h.m fb=some ⟨⟨fcs⟩,fe⟩) (hFv:fcs[fo+3]?=some (.int .i64 regs)) (hl:SlAt h A 2 l argR) (hn:l.length≤1000000000000000) :
    TF Tryd.prog 85 ⟨[.pointer (some ⟨fb,fo,none⟩),.slice A n c]⟩ h (.bool (argsS regs l)) h:=by
  subst hlen;exact args_tf fb fo fcs fe regs l A c h hF hFv hl hn
theorem reads29_at {h:SH} {x:InsS} {A:Option Addr} {c:Nat} (h0:x.op=29) (hn:x.args.length≤1000000000) (hl:SlAt h.base A 2 x.args argR) (hd:∀ i b,h.base.m i=some b→i < h.base.n) (H:Hp) (hH:Sees h true [] H):TF Tryd.prog 50 ⟨[.agg ⟨insC x A c⟩]⟩ H (.slice (some ⟨h.π h.k,0,none⟩) (1+x.args.length) (cap29 x)) (H.push ⟨⟨argsC (x.a::x.args)⟩,46⟩):=by
  have:=reads29_tf x A c h0 hn H (hl.mono (sees_up hH hd) fun _ _ h=>h)
  rw [hH.n] at this;exact this
theorem reads2_at {h:SH} {x:InsS} {A:Option Addr} {c:Nat} (h0:twoS x.op=true∨x.op=27) (H:Hp) (hH:Sees h true [] H):TF Tryd.prog 50 ⟨[.agg ⟨insC x A c⟩]⟩ H (.slice (some ⟨h.π h.k,0,none⟩) 2 2) (H.push ⟨⟨argsC [x.a,x.b]⟩,46⟩):=by
  have:=reads2_tf x A c h0 H
  rw [hH.n] at this;exact this
theorem reads1_at {h:SH} {x:InsS} {A:Option Addr} {c:Nat} (h0:twoS x.op=false) (h1:¬ (23≤x.op∧x.op≤25)) (h2:¬ (27≤x.op∧x.op≤29)) (H:Hp) (hH:Sees h true [] H):TF Tryd.prog 50 ⟨[.agg ⟨insC x A c⟩]⟩ H (.slice (some ⟨h.π h.k,0,none⟩) 1 1) (H.push ⟨⟨argsC [x.a]⟩,46⟩):=by
  have:=reads1_tf x A c h0 h1 h2 H
  rw [hH.n] at this;exact this
theorem right29_tf (p:ProgS) (f:FuncS) (x:InsS) (pb:Nat) (pe:TypeId) (P1:Option Addr) (d1:Nat) (P2:Option Addr) (d2:Nat) (fb fo:Nat) (fcs:List Value) (fe:TypeId) (F1:Option Addr) (c1:Nat) (F2:Option Addr) (c2:Nat) (F3:Option Addr) (c3:Nat) (A:Option Addr) (c:Nat) (h:Hp)
    (hp:ProgAt h pb p pe P1 d1 P2 d2) (hf:FuncAt h fb fo f fcs fe F1 c1 F2 c2 F3 c3) (hl:SlAt h A 2 x.args argR) (hn:x.args.length≤1000000000) (h29:x.op=29) :
    TF Tryd.prog 63 ⟨[.pointer (some ⟨pb,0,none⟩),.pointer (some ⟨fb,fo,none⟩),.agg ⟨insC x A c⟩]⟩ h (.bool (rightS p f x)) h:=by
  refine TF.dom fun hd=>?_
  have hpn:=hd _ _ hp.m
  have hfn:=hd _ _ hf.m
  have hrd:readsS x=x.a::x.args:=by unfold readsS;rw [if_neg (by omega),if_pos h29]
  refine TF.still (fn:=Tryd.f63) (c:=(Tryd.f63.body.getD .skip)) Tryd.func63 (by kernel_rfl) Tryd.ntmps63 (by kernel_rfl) (by simp) ?_
  conv=>arg 2;whnf
  repeat' (first|((with_reducible apply RS.callN true []);(iterate 3 exact rfl);exact reads29_at h29 hn hl hd)|((with_reducible apply RS.callR true [1]);(iterate 3 exact rfl);exact fun H hH=>args_tfn _ fb fo fcs fe f.regs (x.a::x.args) _ _ H (Nat.add_comm _ _) (sees_up hH hd _ _ hf.m) (hf.c 3 _ rfl) (local_args ((hH.l 1 rfl (Nat.le_of_ble_eq_true rfl)).trans rfl)) (by simp;omega);exact Nm_free (by simp))|((with_reducible apply RS.load1B);(iterate 3 exact rfl);exact hf.m;exact hfn;(first|exact hf.c 3 _ rfl|exact hf.c 4 _ rfl))|((with_reducible first|apply RS.nilCheck|apply RS.move|apply RS.assign|apply RS.lenSl|apply RS.not|apply RS.fieldAddr|apply RS.box);iterate 3 exact rfl)|((with_reducible apply RS.pickT);iterate 4 exact rfl)|((with_reducible apply RS.pickF);iterate 4 exact rfl)|((with_reducible apply RS.cmpT);(iterate 4 exact rfl);(simp only [cmpP];omega))|((with_reducible apply RS.cmpF);(iterate 4 exact rfl);(simp only [cmpN];omega))|((with_reducible apply RS.cmpC);iterate 5 exact rfl)|((with_reducible apply RS.bin);iterate 5 exact rfl)|((with_reducible apply RS.load1);iterate 6 exact rfl)|((with_reducible apply RS.loadN);(iterate 5 exact rfl);exact Nat.le_of_ble_eq_true rfl)|((with_reducible apply RS.skip);iterate 2 exact rfl)|((with_reducible apply RS.nil);exact mixed;kernel_rfl)|(with_reducible first|apply W.seq|apply W.block|apply W.ret|apply W.skip|apply thenK_n|apply thenK_r|apply blockK_n|apply blockK_r)|((with_reducible apply W.reg);kernel_rfl)|((with_reducible apply W.condT);kernel_rfl;exact rfl)|((with_reducible apply W.condF);kernel_rfl;exact rfl)|(((with_reducible apply RS.splitD);iterate 2 exact rfl)<;>intro _)|((((with_reducible apply RS.splitG);iterate 2 exact rfl)<;>intro _)<;>(fail_if_success cases ‹true=false›)<;>(fail_if_success cases ‹false=true›))|(((with_reducible apply W.condD);exact rfl)<;>intro _)|((((with_reducible apply W.cond);exact rfl)<;>intro _)<;>(fail_if_success cases ‹true=false›)<;>(fail_if_success cases ‹false=true›)))
  all_goals refine endsK_ret _ (.cons (.tmp rfl) .nil) ⟨rfl,?_⟩
  all_goals simp only [resultOf,Value.bool.injEq,rightS,hrd,rightT]
  all_goals (try simp only [Bool.not_eq_true',Bool.not_eq_false',Int.not_lt,Int.not_le,ge_iff_le,gt_iff_lt] at *)
  all_goals (repeat rw [if_neg (by omega)])
  all_goals (try rw [if_pos (by omega)])
  all_goals (rw [Bool.eq_iff_iff];simp only [Bool.and_eq_true,decide_eq_true_eq,beq_iff_eq,true_and,and_true,false_and,and_false,iff_false,false_iff,true_iff,iff_true,Bool.false_eq_true,reduceCtorEq, *])
  all_goals first
    | done
    | omega
    | exact ⟨fun hh=>⟨by omega,hh⟩,fun hh=>hh.2⟩
    | (constructor<;>intro hh<;>omega)
    | (simp [argsS]<;>omega)
    | trace_state
set_option maxHeartbeats 1000000 in
theorem right2_tf (p:ProgS) (f:FuncS) (x:InsS) (pb:Nat) (pe:TypeId) (P1:Option Addr) (d1:Nat) (P2:Option Addr) (d2:Nat) (fb fo:Nat) (fcs:List Value) (fe:TypeId) (F1:Option Addr) (c1:Nat) (F2:Option Addr) (c2:Nat) (F3:Option Addr) (c3:Nat) (A:Option Addr) (c:Nat) (h:Hp)
    (hp:ProgAt h pb p pe P1 d1 P2 d2) (hf:FuncAt h fb fo f fcs fe F1 c1 F2 c2 F3 c3) (hl:SlAt h A 2 x.args argR) (hn:x.args.length≤1000000000) (h2:twoS x.op=true∨x.op=27) :
    TF Tryd.prog 63 ⟨[.pointer (some ⟨pb,0,none⟩),.pointer (some ⟨fb,fo,none⟩),.agg ⟨insC x A c⟩]⟩ h (.bool (rightS p f x)) h:=by
  refine TF.dom fun hd=>?_
  have hpn:=hd _ _ hp.m
  have hfn:=hd _ _ hf.m
  have h3:¬ x.op=28∧¬ x.op=29:=by simp only [twoS,Bool.and_eq_true,decide_eq_true_eq] at h2;omega
  have ho:3≤x.op∧x.op≤21∨x.op=27:=by simp only [twoS,Bool.and_eq_true,decide_eq_true_eq] at h2;omega
  have hrd:readsS x=[x.a,x.b]:=by unfold readsS;rw [if_neg h3.1,if_neg h3.2,if_pos h2]
  refine TF.still (fn:=Tryd.f63) (c:=(Tryd.f63.body.getD .skip)) Tryd.func63 (by kernel_rfl) Tryd.ntmps63 (by kernel_rfl) (by simp) ?_
  conv=>arg 2;whnf
  repeat' (first|((with_reducible apply RS.callN true []);(iterate 3 exact rfl);exact reads2_at h2)|((with_reducible apply RS.callR true [1]);(iterate 3 exact rfl);exact fun H hH=>args_tfn _ fb fo fcs fe f.regs [x.a,x.b] _ _ H rfl (sees_up hH hd _ _ hf.m) (hf.c 3 _ rfl) (local_args ((hH.l 1 rfl (Nat.le_of_ble_eq_true rfl)).trans rfl)) (Nat.le_of_ble_eq_true rfl);exact Nm_free (by simp))|((with_reducible apply RS.callP);(iterate 3 exact rfl);exact fun H=>(sized_tf _ H);exact Nm_free (by simp))|((with_reducible apply RS.load1B);(iterate 3 exact rfl);exact hf.m;exact hfn;(first|exact hf.c 3 _ rfl|exact hf.c 4 _ rfl))|((with_reducible first|apply RS.nilCheck|apply RS.move|apply RS.assign|apply RS.not|apply RS.fieldAddr|apply RS.box);iterate 3 exact rfl)|((with_reducible apply RS.pickT);iterate 4 exact rfl)|((with_reducible apply RS.pickF);iterate 4 exact rfl)|((with_reducible apply RS.cmpT);(iterate 4 exact rfl);(simp only [cmpP];omega))|((with_reducible apply RS.cmpF);(iterate 4 exact rfl);(simp only [cmpN];omega))|((with_reducible apply RS.cmpC);iterate 5 exact rfl)|((with_reducible apply RS.bin);iterate 5 exact rfl)|((with_reducible apply RS.load1);iterate 6 exact rfl)|((with_reducible apply RS.loadN);(iterate 5 exact rfl);exact Nat.le_of_ble_eq_true rfl)|((with_reducible apply RS.skip);iterate 2 exact rfl)|((with_reducible apply RS.nil);exact mixed;kernel_rfl)|(with_reducible first|apply W.seq|apply W.block|apply W.ret|apply W.skip|apply thenK_n|apply thenK_r|apply blockK_n|apply blockK_r)|((with_reducible apply W.reg);kernel_rfl)|((with_reducible apply W.condT);kernel_rfl;exact rfl)|((with_reducible apply W.condF);kernel_rfl;exact rfl)|(((with_reducible apply RS.splitD);iterate 2 exact rfl)<;>intro _)|((((with_reducible apply RS.splitG);iterate 2 exact rfl)<;>intro _)<;>(fail_if_success cases ‹true=false›)<;>(fail_if_success cases ‹false=true›))|(((with_reducible apply W.condD);exact rfl)<;>intro _)|((((with_reducible apply W.cond);exact rfl)<;>intro _)<;>(fail_if_success cases ‹true=false›)<;>(fail_if_success cases ‹false=true›)))
  all_goals refine endsK_ret _ (.cons (.tmp rfl) .nil) ⟨rfl,?_⟩
  all_goals simp only [resultOf,Value.bool.injEq,rightS,hrd,rightT]
  all_goals (try simp only [Bool.not_eq_true',Bool.not_eq_false',Int.not_lt,Int.not_le,ge_iff_le,gt_iff_lt] at *)
  all_goals (repeat rw [if_neg (by omega)])
  all_goals (try rw [if_pos (by omega)])
  all_goals (rw [Bool.eq_iff_iff];simp only [Bool.and_eq_true,decide_eq_true_eq,beq_iff_eq,true_and,and_true,false_and,and_false,iff_false,false_iff,true_iff,iff_true,Bool.false_eq_true,reduceCtorEq, *])
  all_goals first
    | done
    | omega
    | exact ⟨fun hh=>⟨by omega,hh⟩,fun hh=>hh.2⟩
    | (constructor<;>intro hh<;>omega)
    | (simp [argsS]<;>omega)
    | trace_state
set_option maxHeartbeats 1000000 in
theorem right1_tf (p:ProgS) (f:FuncS) (x:InsS) (pb:Nat) (pe:TypeId) (P1:Option Addr) (d1:Nat) (P2:Option Addr) (d2:Nat) (fb fo:Nat) (fcs:List Value) (fe:TypeId) (F1:Option Addr) (c1:Nat) (F2:Option Addr) (c2:Nat) (F3:Option Addr) (c3:Nat) (A:Option Addr) (c:Nat) (h:Hp)
    (hp:ProgAt h pb p pe P1 d1 P2 d2) (hf:FuncAt h fb fo f fcs fe F1 c1 F2 c2 F3 c3) (hl:SlAt h A 2 x.args argR) (hn:x.args.length≤1000000000) (h1:twoS x.op=false) (h2:¬ (23≤x.op∧x.op≤25)) (h3:¬ (27≤x.op∧x.op≤29)) :
    TF Tryd.prog 63 ⟨[.pointer (some ⟨pb,0,none⟩),.pointer (some ⟨fb,fo,none⟩),.agg ⟨insC x A c⟩]⟩ h (.bool (rightS p f x)) h:=by
  refine TF.dom fun hd=>?_
  have hpn:=hd _ _ hp.m
  have hfn:=hd _ _ hf.m
  have ho:¬ (3≤x.op∧x.op≤21):=by simp only [twoS,Bool.and_eq_false_iff,decide_eq_false_iff_not] at h1;omega
  have hrd:readsS x=[x.a]:=by unfold readsS;rw [if_neg (by omega),if_neg (by omega),if_neg (by rw [h1];simp;omega),if_neg h2]
  refine TF.still (fn:=Tryd.f63) (c:=(Tryd.f63.body.getD .skip)) Tryd.func63 (by kernel_rfl) Tryd.ntmps63 (by kernel_rfl) (by simp) ?_
  conv=>arg 2;whnf
  repeat' (first|((with_reducible apply RS.callP);(iterate 3 exact rfl);exact fun H=>(sized_tf _ H);exact Nm_free (by simp))|((with_reducible apply RS.load1B);(iterate 3 exact rfl);exact hf.m;exact hfn;(first|exact hf.c 3 _ rfl|exact hf.c 4 _ rfl))|((with_reducible apply RS.callN true []);(iterate 3 exact rfl);exact reads1_at h1 h2 h3)|((with_reducible apply RS.callR true [1]);(iterate 3 exact rfl);exact fun H hH=>args_tfn _ fb fo fcs fe f.regs [x.a] _ _ H rfl (sees_up hH hd _ _ hf.m) (hf.c 3 _ rfl) (local_args ((hH.l 1 rfl (Nat.le_of_ble_eq_true rfl)).trans rfl)) (Nat.le_of_ble_eq_true rfl);exact Nm_free (by simp))|((with_reducible first|apply RS.nilCheck|apply RS.move|apply RS.assign|apply RS.not|apply RS.fieldAddr|apply RS.box);iterate 3 exact rfl)|((with_reducible apply RS.pickT);iterate 4 exact rfl)|((with_reducible apply RS.pickF);iterate 4 exact rfl)|((with_reducible apply RS.cmpF);(iterate 4 exact rfl);(simp only [cmpN];omega))|((with_reducible apply RS.cmpC);iterate 5 exact rfl)|((with_reducible apply RS.bin);iterate 5 exact rfl)|((with_reducible apply RS.load1);iterate 6 exact rfl)|((with_reducible apply RS.loadN);(iterate 5 exact rfl);exact Nat.le_of_ble_eq_true rfl)|((with_reducible apply RS.skip);iterate 2 exact rfl)|((with_reducible apply RS.nil);exact mixed;kernel_rfl)|(with_reducible first|apply W.seq|apply W.block|apply W.ret|apply W.skip|apply thenK_n|apply thenK_r|apply blockK_n|apply blockK_r)|((with_reducible apply W.reg);kernel_rfl)|((with_reducible apply W.condT);kernel_rfl;exact rfl)|((with_reducible apply W.condF);kernel_rfl;exact rfl)|(((with_reducible apply RS.splitD);iterate 2 exact rfl)<;>intro _)|((((with_reducible apply RS.splitG);iterate 2 exact rfl)<;>intro _)<;>(fail_if_success cases ‹true=false›)<;>(fail_if_success cases ‹false=true›))|(((with_reducible apply W.condD);exact rfl)<;>intro _)|((((with_reducible apply W.cond);exact rfl)<;>intro _)<;>(fail_if_success cases ‹true=false›)<;>(fail_if_success cases ‹false=true›)))
  all_goals refine endsK_ret _ (.cons (.tmp rfl) .nil) ⟨rfl,?_⟩
  all_goals simp only [resultOf,Value.bool.injEq,rightS,hrd,rightT]
  all_goals (try simp only [Bool.not_eq_true',Bool.not_eq_false',Int.not_lt,Int.not_le,ge_iff_le,gt_iff_lt] at *)
  all_goals (repeat rw [if_neg (by omega)])
  all_goals (try rw [if_pos (by omega)])
  all_goals (rw [Bool.eq_iff_iff];simp only [Bool.and_eq_true,decide_eq_true_eq,beq_iff_eq,true_and,and_true,false_and,and_false,iff_false,false_iff,true_iff,iff_true,Bool.false_eq_true,reduceCtorEq, *])
  all_goals first
    | done
    | omega
    | exact ⟨fun hh=>⟨by omega,hh⟩,fun hh=>hh.2⟩
    | (constructor<;>intro hh<;>omega)
    | (simp [argsS]<;>omega)
    | trace_state
set_option maxHeartbeats 1000000 in
theorem right0_tf (p:ProgS) (f:FuncS) (x:InsS) (pb:Nat) (pe:TypeId) (P1:Option Addr) (d1:Nat) (P2:Option Addr) (d2:Nat) (fb fo:Nat) (fcs:List Value) (fe:TypeId) (F1:Option Addr) (c1:Nat) (F2:Option Addr) (c2:Nat) (F3:Option Addr) (c3:Nat) (A:Option Addr) (c:Nat) (h:Hp)
    (hp:ProgAt h pb p pe P1 d1 P2 d2) (hf:FuncAt h fb fo f fcs fe F1 c1 F2 c2 F3 c3) (hl:SlAt h A 2 x.args argR) (hn:x.args.length≤1000000000) (h1:23≤x.op∧x.op≤25) :
    TF Tryd.prog 63 ⟨[.pointer (some ⟨pb,0,none⟩),.pointer (some ⟨fb,fo,none⟩),.agg ⟨insC x A c⟩]⟩ h (.bool (rightS p f x)) h:=by
  refine TF.dom fun hd=>?_
  have hpn:=hd _ _ hp.m
  have hfn:=hd _ _ hf.m
  have ht:twoS x.op=false:=by unfold twoS;rw [Bool.eq_false_iff];simp;omega
  have hrd:readsS x=[]:=by unfold readsS;rw [if_neg (by omega),if_neg (by omega),if_neg (by rw [ht];simp;omega),if_pos h1]
  refine TF.still (fn:=Tryd.f63) (c:=(Tryd.f63.body.getD .skip)) Tryd.func63 (by kernel_rfl) Tryd.ntmps63 (by kernel_rfl) (by simp) ?_
  conv=>arg 2;whnf
  repeat' (first|((with_reducible apply RS.callR true []);(iterate 3 exact rfl);exact fun H hH=>args_tfn _ fb fo fcs fe f.regs [] _ _ H rfl (sees_up hH hd _ _ hf.m) (hf.c 3 _ rfl) SlAt.nil (Nat.le_of_ble_eq_true rfl);exact Nm_free (by simp))|((with_reducible apply RS.callP);(iterate 3 exact rfl);exact fun H=>reads0_tf x A c h1 H;exact Nm_free (by simp))|((with_reducible apply RS.load1B);(iterate 3 exact rfl);first|exact hf.m;exact hfn;(first|exact hf.c 3 _ rfl|exact hf.c 4 _ rfl)|exact hp.m;exact hpn;exact rfl)|((with_reducible first|apply RS.nilCheck|apply RS.move|apply RS.assign|apply RS.lenSl|apply RS.not|apply RS.fieldAddr|apply RS.box);iterate 3 exact rfl)|((with_reducible apply RS.pickT);iterate 4 exact rfl)|((with_reducible apply RS.pickF);iterate 4 exact rfl)|((with_reducible apply RS.cmpT);(iterate 4 exact rfl);(simp only [cmpP];omega))|((with_reducible apply RS.cmpF);(iterate 4 exact rfl);(simp only [cmpN];omega))|((with_reducible apply RS.cmpC);iterate 5 exact rfl)|((with_reducible apply RS.bin);iterate 5 exact rfl)|((with_reducible apply RS.load1);iterate 6 exact rfl)|((with_reducible apply RS.loadN);(iterate 5 exact rfl);exact Nat.le_of_ble_eq_true rfl)|((with_reducible apply RS.skip);iterate 2 exact rfl)|((with_reducible apply RS.nil);exact mixed;kernel_rfl)|(with_reducible first|apply W.seq|apply W.block|apply W.ret|apply W.skip|apply thenK_n|apply thenK_r|apply blockK_n|apply blockK_r)|((with_reducible apply W.reg);kernel_rfl)|((with_reducible apply W.condT);kernel_rfl;exact rfl)|((with_reducible apply W.condF);kernel_rfl;exact rfl)|(((with_reducible apply RS.splitD);iterate 2 exact rfl)<;>intro _)|((((with_reducible apply RS.splitG);iterate 2 exact rfl)<;>intro _)<;>(fail_if_success cases ‹true=false›)<;>(fail_if_success cases ‹false=true›))|(((with_reducible apply W.condD);exact rfl)<;>intro _)|((((with_reducible apply W.cond);exact rfl)<;>intro _)<;>(fail_if_success cases ‹true=false›)<;>(fail_if_success cases ‹false=true›)))
  all_goals refine endsK_ret _ (.cons (.tmp rfl) .nil) ⟨rfl,?_⟩
  all_goals simp only [resultOf,Value.bool.injEq,rightS,hrd,rightT]
  all_goals (try simp only [Bool.not_eq_true',Bool.not_eq_false',Int.not_lt,Int.not_le,ge_iff_le,gt_iff_lt] at *)
  all_goals (repeat rw [if_neg (by omega)])
  all_goals (try rw [if_pos (by omega)])
  all_goals (rw [Bool.eq_iff_iff];simp only [Bool.and_eq_true,decide_eq_true_eq,beq_iff_eq,true_and,and_true,false_and,and_false,iff_false,false_iff,true_iff,iff_true,Bool.false_eq_true,reduceCtorEq, *])
  all_goals first
    | done
    | omega
    | exact ⟨fun hh=>⟨by omega,hh⟩,fun hh=>hh.2⟩
    | (constructor<;>intro hh<;>omega)
    | (simp [argsS]<;>omega)
    | trace_state
end Go.Proofs.YtjhloakacicdiaaDoor
namespace Go.Proofs.YtjhloakacicdiaaDoor
open Go.AH
attribute [local irreducible] W RS
def treadsS (t:TermS):List ArgS:=if t.kind=2 then [t.a,t.b] else if t.kind=3 then [t.a] else []
def nextS (t:TermS):List Int:=if t.kind=1 then [t.goto] else if t.kind=2 then [t.goto,t.els] else []
def targetsS (nb:Nat) (l:List Int):Bool:=l.all fun n=>decide (0≤n) && decide (n < nb)
theorem targetsS_cons (nb:Nat) (n:Int) (l:List Int):targetsS nb (n::l)=(decide (0≤n) && decide (n < nb) && targetsS nb l):=rfl
def endsS (f:FuncS) (t:TermS):Bool:=decide (1≤t.kind) && decide (t.kind≤3) && argsS f.regs (treadsS t) && (!(t.kind == 2) || (decide (16≤t.op) && decide (t.op≤21))) && targetsS f.blocks.length (nextS t)
theorem next1_at {h:SH} {t:TermS} (hk:t.kind=1) (H:Hp) (hH:Sees h true [] H):TF Tryd.prog 46 ⟨[.agg ⟨termC t⟩]⟩ H (.slice (some ⟨h.π h.k,0,none⟩) 1 1) (H.push ⟨⟨[.int .i64 t.goto]⟩,3⟩):=by
  have:=next1_tf t hk H
  rw [hH.n] at this;exact this
theorem next2_at {h:SH} {t:TermS} (hk:t.kind=2) (H:Hp) (hH:Sees h true [] H):TF Tryd.prog 46 ⟨[.agg ⟨termC t⟩]⟩ H (.slice (some ⟨h.π h.k,0,none⟩) 2 2) (H.push ⟨⟨[.int .i64 t.goto,.int .i64 t.els]⟩,3⟩):=by
  have:=next2_tf t hk H
  rw [hH.n] at this;exact this
theorem treads2_at {h:SH} {t:TermS} (hk:t.kind=2) (H:Hp) (hH:Sees h true [] H):TF Tryd.prog 17 ⟨[.agg ⟨termC t⟩]⟩ H (.slice (some ⟨h.π h.k,0,none⟩) 2 2) (H.push ⟨⟨argsC [t.a,t.b]⟩,46⟩):=by
  have:=treads2_tf t hk H
  rw [hH.n] at this;exact this
theorem treads3_at {h:SH} {t:TermS} (hk:t.kind=3) (H:Hp) (hH:Sees h true [] H):TF Tryd.prog 17 ⟨[.agg ⟨termC t⟩]⟩ H (.slice (some ⟨h.π h.k,0,none⟩) 1 1) (H.push ⟨⟨argsC [t.a]⟩,46⟩):=by
  have:=treads3_tf t hk H
  rw [hH.n] at this;exact this
theorem ends2_tf (f:FuncS) (t:TermS) (hk:t.kind=2) (fb fo:Nat) (fcs:List Value) (fe:TypeId) (A3:Option Addr) (c3:Nat) (h:Hp) (hF:h.m fb=some ⟨⟨fcs⟩,fe⟩) (hF3:fcs[fo+3]?=some (.int .i64 f.regs)) (hF5:fcs[fo+5]?=some (.slice A3 f.blocks.length c3)) (hnb:f.blocks.length≤1000000000000000) :
    TF Tryd.prog 64 ⟨[.pointer (some ⟨fb,fo,none⟩),.agg ⟨termC t⟩]⟩ h (.bool (endsS f t)) h:=by
  refine TF.dom fun hd=>?_
  have hFn:=hd _ _ hF
  have hrd:treadsS t=[t.a,t.b]:=by unfold treadsS;rw [if_pos hk]
  have hnx:nextS t=[t.goto,t.els]:=by unfold nextS;rw [if_neg (by omega),if_pos hk]
  refine TF.still (fn:=Tryd.f64) (c:=(Tryd.f64.body.getD .skip)) Tryd.func64 (by kernel_rfl) Tryd.ntmps64 (by kernel_rfl) (by simp) ?_
  conv=>arg 2;whnf
  repeat' (first|((with_reducible apply RS.callN true []);(iterate 3 exact rfl);exact treads2_at hk)|((with_reducible apply RS.callR true [1]);(iterate 3 exact rfl);exact fun H hH=>args_tfn _ fb fo fcs fe f.regs [t.a,t.b] _ _ H rfl (sees_up hH hd _ _ hF) hF3 (local_args ((hH.l 1 rfl (Nat.le_of_ble_eq_true rfl)).trans rfl)) (Nat.le_of_ble_eq_true rfl);exact Nm_free (by simp))|((with_reducible apply RS.callN true []);(iterate 3 exact rfl);exact next2_at hk)|((with_reducible first|apply RS.move|apply RS.assign|apply RS.lenSl|apply RS.not|apply RS.fieldAddr|apply RS.box);iterate 3 exact rfl)|((with_reducible apply RS.pickT);iterate 4 exact rfl)|((with_reducible apply RS.pickF);iterate 4 exact rfl)|((with_reducible apply RS.cmpT);(iterate 4 exact rfl);(simp only [cmpP];omega))|((with_reducible apply RS.cmpF);(iterate 4 exact rfl);(simp only [cmpN];omega))|((with_reducible apply RS.cmpC);iterate 5 exact rfl)|((with_reducible apply RS.load1);iterate 6 exact rfl)|((with_reducible apply RS.loadN);(iterate 5 exact rfl);exact Nat.le_of_ble_eq_true rfl)|((with_reducible apply RS.skip);iterate 2 exact rfl)|((with_reducible apply RS.nil);exact mixed;kernel_rfl)|(with_reducible first|apply W.seq|apply W.block|apply W.ret|apply W.skip|apply thenK_n|apply thenK_r)|((with_reducible apply W.reg);kernel_rfl)|((with_reducible apply W.condT);kernel_rfl;exact rfl)|(((with_reducible apply RS.splitD);iterate 2 exact rfl)<;>intro _)|((((with_reducible apply RS.splitG);iterate 2 exact rfl)<;>intro _)<;>(fail_if_success cases ‹true=false›)<;>(fail_if_success cases ‹false=true›))|(((with_reducible apply W.condD);exact rfl)<;>intro _)|((((with_reducible apply W.cond);exact rfl)<;>intro _)<;>(fail_if_success cases ‹true=false›)<;>(fail_if_success cases ‹false=true›)))
  all_goals first
    | (refine endsK_ret _ (.cons (.tmp rfl) .nil) ⟨rfl, ?_⟩
       simp only [resultOf,Value.bool.injEq,endsS,hrd]
       try simp only [Bool.not_eq_true',Bool.not_eq_false',Int.not_lt,Int.not_le] at *
       rw [Bool.eq_iff_iff]
       simp [*]<;>omega)
    | skip
  refine W.loop (X:=Nat) (fun π i=>[(0,.pointer (some ⟨fb,fo,none⟩)),(38,.slice (some ⟨π 0,0,none⟩) 2 2),(39,.int .i64 ((2:Nat):Int)),(40,.int .i64 i)]) (fun _=>h) (fun π i=>[(0,some ⟨⟨([t.goto,t.els]:List Int).map fun z=>.int .i64 z⟩,3⟩)]) (fun i=>i≤2∧targetsS f.blocks.length [t.goto,t.els]=targetsS f.blocks.length (([t.goto,t.els]:List Int).drop i)) (fun i=>2 - i) [2] 0 ⟨Nat.zero_le _,rfl⟩ (by (refine FitL.mk ?_ ?_ ?_ ?_<;>(repeat' (first|exact trivial|exact rfl|apply And.intro));done)) ?_
  intro π i hI
  obtain ⟨hi,hI⟩:=hI
  dsimp only at hi hI ⊢
  by_cases hlt:i < 2
  · obtain ⟨n,hn⟩:∃ n,([t.goto,t.els]:List Int)[i]?=some n:=⟨_,List.getElem?_eq_getElem hlt⟩
    have hv:(([t.goto,t.els]:List Int).map fun z=>Value.int .i64 z)[0+i * 1]?=some (.int .i64 n):=by
      rw [Nat.zero_add,Nat.mul_one,List.getElem?_map,hn];rfl
    have hdr:([t.goto,t.els]:List Int).drop i=n::([t.goto,t.els]:List Int).drop (i+1):=by
      rw [List.drop_eq_getElem_cons hlt]
      rw [List.getElem?_eq_getElem hlt] at hn
      injection hn with hn
      rw [hn]
    rw [hdr,targetsS_cons _ n] at hI
    repeat' (first|((with_reducible apply RS.indexAddrS);(iterate 5 exact rfl);exact hlt)|((with_reducible apply RS.load1At);(iterate 5 exact rfl);exact hv)|((with_reducible apply RS.load1B);(iterate 3 exact rfl);exact hF;exact hFn;(first|exact hF3|exact hF5))|((with_reducible first|apply RS.nilCheck|apply RS.move|apply RS.assign|apply RS.lenSl|apply RS.fieldAddr);iterate 3 exact rfl)|((with_reducible apply RS.pickT);iterate 4 exact rfl)|((with_reducible apply RS.pickF);iterate 4 exact rfl)|((with_reducible apply RS.cmpT);(iterate 4 exact rfl);(simp only [cmpP];omega))|((with_reducible apply RS.cmpC);iterate 5 exact rfl)|((with_reducible apply RS.add1);(iterate 4 exact rfl);omega)|((with_reducible apply RS.bin);iterate 5 exact rfl)|((with_reducible apply RS.skip);iterate 2 exact rfl)|((with_reducible apply RS.nil);exact mixed;kernel_rfl)|(with_reducible first|apply W.seq|apply W.block|apply W.ret|apply W.skip|apply thenK_n|apply thenK_r|apply blockK_n|apply blockK_r|apply roundK_r)|((with_reducible apply W.reg);kernel_rfl)|((with_reducible apply W.condT);kernel_rfl;exact rfl)|(((with_reducible apply RS.splitD);iterate 2 exact rfl)<;>intro _)|((((with_reducible apply RS.splitG);iterate 2 exact rfl)<;>intro _)<;>(fail_if_success cases ‹true=false›)<;>(fail_if_success cases ‹false=true›))|(((with_reducible apply W.condD);exact rfl)<;>intro _)|((((with_reducible apply W.cond);exact rfl)<;>intro _)<;>(fail_if_success cases ‹true=false›)<;>(fail_if_success cases ‹false=true›)))
    · refine endsK_ret _ (.cons (.tmp rfl) .nil) ⟨rfl,?_⟩
      have hz:targetsS f.blocks.length (nextS t)=false:=by rw [hnx,hI];simp;omega
      simp only [resultOf,endsS,hrd,hz]
      simp
    · refine endsK_ret _ (.cons (.tmp rfl) .nil) ⟨rfl,?_⟩
      have hz:targetsS f.blocks.length (nextS t)=false:=by rw [hnx,hI];simp;omega
      simp only [resultOf,endsS,hrd,hz]
      simp
    · exact roundK_n (i+1) [0] rfl rfl ⟨by omega,by rw [hI,show (decide (0≤n) && decide (n < f.blocks.length))=true by simp;omega,Bool.true_and]⟩ (by omega) (by (refine FitL.mk ?_ ?_ ?_ ?_<;>(repeat' (first|exact trivial|exact rfl|apply And.intro));done))
  · repeat (first|((with_reducible apply RS.assign);iterate 3 exact rfl)|((with_reducible apply RS.cmpF);(iterate 4 exact rfl);(simp only [cmpN];omega))|((with_reducible apply RS.nil);exact mixed;kernel_rfl)|(with_reducible first|apply W.seq|apply W.exit|apply W.ret|apply thenK_n|apply thenK_e|apply roundK_e)|((with_reducible apply W.reg);kernel_rfl)|((with_reducible apply W.condF);kernel_rfl;exact rfl)|((with_reducible apply blockK_hit);exact rfl))
    refine endsK_ret _ (.cons (.tmp rfl) .nil) ⟨rfl,?_⟩
    have h2:i=2:=by omega
    subst h2
    have hI':targetsS f.blocks.length [t.goto,t.els]=true:=hI
    rw [← hnx] at hI'
    simp only [resultOf,Value.bool.injEq,endsS,hrd,hI']
    try simp only [Bool.not_eq_true',Bool.not_eq_false',Int.not_lt,Int.not_le] at *
    rw [Bool.eq_iff_iff]
    simp [*]<;>omega
theorem ends1_tf (f:FuncS) (t:TermS) (hk:t.kind=1) (fb fo:Nat) (fcs:List Value) (fe:TypeId) (A3:Option Addr) (c3:Nat) (h:Hp) (hF:h.m fb=some ⟨⟨fcs⟩,fe⟩) (hF3:fcs[fo+3]?=some (.int .i64 f.regs)) (hF5:fcs[fo+5]?=some (.slice A3 f.blocks.length c3)) (hnb:f.blocks.length≤1000000000000000) :
    TF Tryd.prog 64 ⟨[.pointer (some ⟨fb,fo,none⟩),.agg ⟨termC t⟩]⟩ h (.bool (endsS f t)) h:=by
  refine TF.dom fun hd=>?_
  have hFn:=hd _ _ hF
  have hrd:treadsS t=[]:=by unfold treadsS;rw [if_neg (by omega),if_neg (by omega)]
  have hnx:nextS t=[t.goto]:=by unfold nextS;rw [if_pos hk]
  refine TF.still (fn:=Tryd.f64) (c:=(Tryd.f64.body.getD .skip)) Tryd.func64 (by kernel_rfl) Tryd.ntmps64 (by kernel_rfl) (by simp) ?_
  conv=>arg 2;whnf
  repeat (first|((with_reducible apply RS.callR true []);(iterate 3 exact rfl);exact fun H hH=>args_tfn _ fb fo fcs fe f.regs [] _ _ H rfl (sees_up hH hd _ _ hF) hF3 SlAt.nil (Nat.le_of_ble_eq_true rfl);exact Nm_free (by simp))|((with_reducible apply RS.callP);(iterate 3 exact rfl);exact fun H=>treads0_tf t (by omega) (by omega) H;exact Nm_free (by simp))|((with_reducible apply RS.callN true []);(iterate 3 exact rfl);exact next1_at hk)|((with_reducible first|apply RS.move|apply RS.assign|apply RS.lenSl|apply RS.not|apply RS.fieldAddr|apply RS.box);iterate 3 exact rfl)|((with_reducible apply RS.pickF);iterate 4 exact rfl)|((with_reducible apply RS.cmpF);(iterate 4 exact rfl);(simp only [cmpN];omega))|((with_reducible apply RS.load1);iterate 6 exact rfl)|((with_reducible apply RS.loadN);(iterate 5 exact rfl);exact Nat.le_of_ble_eq_true rfl)|((with_reducible apply RS.skip);iterate 2 exact rfl)|((with_reducible apply RS.nil);exact mixed;kernel_rfl)|(with_reducible first|apply W.seq|apply W.block|apply W.skip|apply thenK_n)|((with_reducible apply W.reg);kernel_rfl)|((with_reducible apply W.condF);kernel_rfl;exact rfl))
  repeat' ((first|(((with_reducible apply RS.splitD);iterate 2 exact rfl)<;>intro _)|((((with_reducible apply RS.splitG);iterate 2 exact rfl)<;>intro _)<;>(fail_if_success cases ‹true=false›)<;>(fail_if_success cases ‹false=true›))|(((with_reducible apply W.condD);exact rfl)<;>intro _)|((((with_reducible apply W.cond);exact rfl)<;>intro _)<;>(fail_if_success cases ‹true=false›)<;>(fail_if_success cases ‹false=true›)))<;>repeat (fail))
  all_goals first
    | (refine endsK_ret _ (.cons (.tmp rfl) .nil) ⟨rfl, ?_⟩
       simp only [resultOf,Value.bool.injEq,endsS,hrd]
       try simp only [Bool.not_eq_true',Bool.not_eq_false',Int.not_lt,Int.not_le] at *
       rw [Bool.eq_iff_iff]
       simp [*]<;>omega)
    | skip
  refine W.loop (X:=Nat) (fun π i=>[(0,.pointer (some ⟨fb,fo,none⟩)),(38,.slice (some ⟨π 0,0,none⟩) 1 1),(39,.int .i64 ((1:Nat):Int)),(40,.int .i64 i)]) (fun _=>h) (fun π i=>[(0,some ⟨⟨([t.goto]:List Int).map fun z=>.int .i64 z⟩,3⟩)]) (fun i=>i≤1∧targetsS f.blocks.length [t.goto]=targetsS f.blocks.length (([t.goto]:List Int).drop i)) (fun i=>1 - i) [1] 0 ⟨Nat.zero_le _,rfl⟩ (by (refine FitL.mk ?_ ?_ ?_ ?_<;>(repeat' (first|exact trivial|exact rfl|apply And.intro));done)) ?_
  intro π i hI
  obtain ⟨hi,hI⟩:=hI
  dsimp only at hi hI ⊢
  by_cases hlt:i < 1
  · obtain ⟨n,hn⟩:∃ n,([t.goto]:List Int)[i]?=some n:=⟨_,List.getElem?_eq_getElem hlt⟩
    have hv:(([t.goto]:List Int).map fun z=>Value.int .i64 z)[0+i * 1]?=some (.int .i64 n):=by
      rw [Nat.zero_add,Nat.mul_one,List.getElem?_map,hn];rfl
    have hdr:([t.goto]:List Int).drop i=n::([t.goto]:List Int).drop (i+1):=by
      rw [List.drop_eq_getElem_cons hlt]
      rw [List.getElem?_eq_getElem hlt] at hn
      injection hn with hn
      rw [hn]
    rw [hdr,targetsS_cons _ n] at hI
    repeat' (first|((with_reducible apply RS.indexAddrS);(iterate 5 exact rfl);exact hlt)|((with_reducible apply RS.load1At);(iterate 5 exact rfl);exact hv)|((with_reducible apply RS.load1B);(iterate 3 exact rfl);exact hF;exact hFn;(first|exact hF3|exact hF5))|((with_reducible first|apply RS.nilCheck|apply RS.move|apply RS.assign|apply RS.lenSl|apply RS.fieldAddr);iterate 3 exact rfl)|((with_reducible apply RS.pickT);iterate 4 exact rfl)|((with_reducible apply RS.pickF);iterate 4 exact rfl)|((with_reducible apply RS.cmpT);(iterate 4 exact rfl);(simp only [cmpP];omega))|((with_reducible apply RS.cmpC);iterate 5 exact rfl)|((with_reducible apply RS.add1);(iterate 4 exact rfl);omega)|((with_reducible apply RS.bin);iterate 5 exact rfl)|((with_reducible apply RS.skip);iterate 2 exact rfl)|((with_reducible apply RS.nil);exact mixed;kernel_rfl)|(with_reducible first|apply W.seq|apply W.block|apply W.ret|apply W.skip|apply thenK_n|apply thenK_r|apply blockK_n|apply blockK_r|apply roundK_r)|((with_reducible apply W.reg);kernel_rfl)|((with_reducible apply W.condT);kernel_rfl;exact rfl)|(((with_reducible apply RS.splitD);iterate 2 exact rfl)<;>intro _)|((((with_reducible apply RS.splitG);iterate 2 exact rfl)<;>intro _)<;>(fail_if_success cases ‹true=false›)<;>(fail_if_success cases ‹false=true›))|(((with_reducible apply W.condD);exact rfl)<;>intro _)|((((with_reducible apply W.cond);exact rfl)<;>intro _)<;>(fail_if_success cases ‹true=false›)<;>(fail_if_success cases ‹false=true›)))
    · refine endsK_ret _ (.cons (.tmp rfl) .nil) ⟨rfl,?_⟩
      have hz:targetsS f.blocks.length (nextS t)=false:=by rw [hnx,hI];simp;omega
      simp only [resultOf,endsS,hrd,hz]
      simp
    · refine endsK_ret _ (.cons (.tmp rfl) .nil) ⟨rfl,?_⟩
      have hz:targetsS f.blocks.length (nextS t)=false:=by rw [hnx,hI];simp;omega
      simp only [resultOf,endsS,hrd,hz]
      simp
    · exact roundK_n (i+1) [0] rfl rfl ⟨by omega,by rw [hI,show (decide (0≤n) && decide (n < f.blocks.length))=true by simp;omega,Bool.true_and]⟩ (by omega) (by (refine FitL.mk ?_ ?_ ?_ ?_<;>(repeat' (first|exact trivial|exact rfl|apply And.intro));done))
  · repeat (first|((with_reducible apply RS.assign);iterate 3 exact rfl)|((with_reducible apply RS.cmpF);(iterate 4 exact rfl);(simp only [cmpN];omega))|((with_reducible apply RS.nil);exact mixed;kernel_rfl)|(with_reducible first|apply W.seq|apply W.exit|apply W.ret|apply thenK_n|apply thenK_e|apply roundK_e)|((with_reducible apply W.reg);kernel_rfl)|((with_reducible apply W.condF);kernel_rfl;exact rfl)|((with_reducible apply blockK_hit);exact rfl))
    refine endsK_ret _ (.cons (.tmp rfl) .nil) ⟨rfl,?_⟩
    have h2:i=1:=by omega
    subst h2
    have hI':targetsS f.blocks.length [t.goto]=true:=hI
    rw [← hnx] at hI'
    simp only [resultOf,Value.bool.injEq,endsS,hrd,hI']
    try simp only [Bool.not_eq_true',Bool.not_eq_false',Int.not_lt,Int.not_le] at *
    rw [Bool.eq_iff_iff]
    simp [argsS, *]
theorem ends3_tf (f:FuncS) (t:TermS) (hk:t.kind=3) (fb fo:Nat) (fcs:List Value) (fe:TypeId) (A3:Option Addr) (c3:Nat) (h:Hp) (hF:h.m fb=some ⟨⟨fcs⟩,fe⟩) (hF3:fcs[fo+3]?=some (.int .i64 f.regs)) (hF5:fcs[fo+5]?=some (.slice A3 f.blocks.length c3)) (hnb:f.blocks.length≤1000000000000000) :
    TF Tryd.prog 64 ⟨[.pointer (some ⟨fb,fo,none⟩),.agg ⟨termC t⟩]⟩ h (.bool (endsS f t)) h:=by
  refine TF.dom fun hd=>?_
  have hFn:=hd _ _ hF
  have hrd:treadsS t=[t.a]:=by unfold treadsS;rw [if_neg (by omega),if_pos hk]
  have hnx:nextS t=[]:=by unfold nextS;rw [if_neg (by omega),if_neg (by omega)]
  refine TF.still (fn:=Tryd.f64) (c:=(Tryd.f64.body.getD .skip)) Tryd.func64 (by kernel_rfl) Tryd.ntmps64 (by kernel_rfl) (by simp) ?_
  conv=>arg 2;whnf
  repeat' (first|((with_reducible apply RS.callR true [1]);(iterate 3 exact rfl);exact fun H hH=>args_tfn _ fb fo fcs fe f.regs [t.a] _ _ H rfl (sees_up hH hd _ _ hF) hF3 (local_args ((hH.l 1 rfl (Nat.le_of_ble_eq_true rfl)).trans rfl)) (Nat.le_of_ble_eq_true rfl);exact Nm_free (by simp))|((with_reducible apply RS.callN true []);(iterate 3 exact rfl);exact treads3_at hk)|((with_reducible apply RS.callP);(iterate 3 exact rfl);exact fun H=>next0_tf t (by omega) (by omega) H;exact Nm_free (by simp))|((with_reducible first|apply RS.move|apply RS.assign|apply RS.lenSl|apply RS.not|apply RS.fieldAddr|apply RS.box);iterate 3 exact rfl)|((with_reducible apply RS.pickT);iterate 4 exact rfl)|((with_reducible apply RS.pickF);iterate 4 exact rfl)|((with_reducible apply RS.cmpF);(iterate 4 exact rfl);(simp only [cmpN];omega))|((with_reducible apply RS.load1);iterate 6 exact rfl)|((with_reducible apply RS.loadN);(iterate 5 exact rfl);exact Nat.le_of_ble_eq_true rfl)|((with_reducible apply RS.skip);iterate 2 exact rfl)|((with_reducible apply RS.nil);exact mixed;kernel_rfl)|(with_reducible first|apply W.seq|apply W.block|apply W.ret|apply W.skip|apply thenK_n|apply thenK_r)|((with_reducible apply W.reg);kernel_rfl)|((with_reducible apply W.condT);kernel_rfl;exact rfl)|((with_reducible apply W.condF);kernel_rfl;exact rfl)|(((with_reducible apply RS.splitD);iterate 2 exact rfl)<;>intro _)|((((with_reducible apply RS.splitG);iterate 2 exact rfl)<;>intro _)<;>(fail_if_success cases ‹true=false›)<;>(fail_if_success cases ‹false=true›))|(((with_reducible apply W.condD);exact rfl)<;>intro _)|((((with_reducible apply W.cond);exact rfl)<;>intro _)<;>(fail_if_success cases ‹true=false›)<;>(fail_if_success cases ‹false=true›)))
  all_goals first
    | (refine endsK_ret _ (.cons (.tmp rfl) .nil) ⟨rfl, ?_⟩
       simp only [resultOf,Value.bool.injEq,endsS,hrd]
       try simp only [Bool.not_eq_true',Bool.not_eq_false',Int.not_lt,Int.not_le] at *
       rw [Bool.eq_iff_iff]
       simp [*]<;>omega)
    | skip
  refine W.loop (X:=Unit) (fun π i=>[(0,.pointer (some ⟨fb,fo,none⟩)),(38,.slice none 0 0),(39,.int .i64 0),(40,.int .i64 0)]) (fun _=>h) (fun π i=>[]) (fun i=>True) (fun i=>0) [] () trivial (by (refine FitL.mk ?_ ?_ ?_ ?_<;>(repeat' (first|exact trivial|exact rfl|apply And.intro));done)) ?_
  intro π i _
  repeat (first|((with_reducible apply RS.assign);iterate 3 exact rfl)|((with_reducible apply RS.cmpF);(iterate 4 exact rfl);(simp only [cmpN];omega))|((with_reducible apply RS.nil);exact mixed;kernel_rfl)|(with_reducible first|apply W.seq|apply W.exit|apply W.ret|apply thenK_n|apply thenK_e|apply roundK_e)|((with_reducible apply W.reg);kernel_rfl)|((with_reducible apply W.condF);kernel_rfl;exact rfl)|((with_reducible apply blockK_hit);exact rfl))
  refine endsK_ret _ (.cons (.tmp rfl) .nil) ⟨rfl,?_⟩
  simp only [resultOf,Value.bool.injEq,endsS,hrd,hnx,targetsS,List.all_nil]
  try simp only [Bool.not_eq_true',Bool.not_eq_false',Int.not_lt,Int.not_le] at *
  rw [Bool.eq_iff_iff]
  simp [*]
theorem ends0_tf (f:FuncS) (t:TermS) (hk:¬ (1≤t.kind∧t.kind≤3)) (fb fo:Nat) (fcs:List Value) (fe:TypeId) (A3:Option Addr) (c3:Nat) (h:Hp) (hF:h.m fb=some ⟨⟨fcs⟩,fe⟩) (hF3:fcs[fo+3]?=some (.int .i64 f.regs)) (hF5:fcs[fo+5]?=some (.slice A3 f.blocks.length c3)) (hnb:f.blocks.length≤1000000000000000) :
    TF Tryd.prog 64 ⟨[.pointer (some ⟨fb,fo,none⟩),.agg ⟨termC t⟩]⟩ h (.bool (endsS f t)) h:=by
  refine TF.dom fun hd=>?_
  have hFn:=hd _ _ hF
  have hrd:treadsS t=[]:=by unfold treadsS;rw [if_neg (by omega),if_neg (by omega)]
  refine TF.still (fn:=Tryd.f64) (c:=(Tryd.f64.body.getD .skip)) Tryd.func64 (by kernel_rfl) Tryd.ntmps64 (by kernel_rfl) (by simp) ?_
  conv=>arg 2;whnf
  repeat' (first|((with_reducible first|apply RS.move|apply RS.assign|apply RS.fieldAddr|apply RS.box);iterate 3 exact rfl)|((with_reducible apply RS.pickT);iterate 4 exact rfl)|((with_reducible apply RS.pickF);iterate 4 exact rfl)|((with_reducible apply RS.cmpT);(iterate 4 exact rfl);(simp only [cmpP];omega))|((with_reducible apply RS.cmpC);iterate 5 exact rfl)|((with_reducible apply RS.load1);iterate 6 exact rfl)|((with_reducible apply RS.skip);iterate 2 exact rfl)|((with_reducible apply RS.nil);exact mixed;kernel_rfl)|(with_reducible first|apply W.seq|apply W.ret|apply thenK_n|apply thenK_r)|((with_reducible apply W.reg);kernel_rfl)|((with_reducible apply W.condT);kernel_rfl;exact rfl)|(((with_reducible apply RS.splitD);iterate 2 exact rfl)<;>intro _)|((((with_reducible apply RS.splitG);iterate 2 exact rfl)<;>intro _)<;>(fail_if_success cases ‹true=false›)<;>(fail_if_success cases ‹false=true›))|(((with_reducible apply W.condD);exact rfl)<;>intro _)|((((with_reducible apply W.cond);exact rfl)<;>intro _)<;>(fail_if_success cases ‹true=false›)<;>(fail_if_success cases ‹false=true›)))
  all_goals first
    | (refine endsK_ret _ (.cons (.tmp rfl) .nil) ⟨rfl, ?_⟩
       simp only [resultOf,Value.bool.injEq,endsS,hrd]
       try simp only [Bool.not_eq_true',Bool.not_eq_false',Int.not_lt,Int.not_le] at *
       rw [Bool.eq_iff_iff]
       simp [*]<;>omega)
    | trace_state
theorem ends_tf (f:FuncS) (t:TermS) (fb fo:Nat) (fcs:List Value) (fe:TypeId) (A3:Option Addr) (c3:Nat) (h:Hp) (hF:h.m fb=some ⟨⟨fcs⟩,fe⟩) (hF3:fcs[fo+3]?=some (.int .i64 f.regs)) (hF5:fcs[fo+5]?=some (.slice A3 f.blocks.length c3)) (hnb:f.blocks.length≤1000000000000000) :
    TF Tryd.prog 64 ⟨[.pointer (some ⟨fb,fo,none⟩),.agg ⟨termC t⟩]⟩ h (.bool (endsS f t)) h:=by
  by_cases h1:t.kind=1
  · exact ends1_tf f t h1 fb fo fcs fe A3 c3 h hF hF3 hF5 hnb
  by_cases h2:t.kind=2
  · exact ends2_tf f t h2 fb fo fcs fe A3 c3 h hF hF3 hF5 hnb
  by_cases h3:t.kind=3
  · exact ends3_tf f t h3 fb fo fcs fe A3 c3 h hF hF3 hF5 hnb
  · exact ends0_tf f t (by omega) fb fo fcs fe A3 c3 h hF hF3 hF5 hnb
end Go.Proofs.YtjhloakacicdiaaDoor
namespace Go.Proofs.YtjhloakacicdiaaDoor
open Go.AH
attribute [local irreducible] W RS
theorem right_tf (p:ProgS) (f:FuncS) (x:InsS) (pb:Nat) (pe:TypeId) (P1:Option Addr) (d1:Nat) (P2:Option Addr) (d2:Nat) (fb fo:Nat) (fcs:List Value) (fe:TypeId) (F1:Option Addr) (c1:Nat) (F2:Option Addr) (c2:Nat) (F3:Option Addr) (c3:Nat) (A:Option Addr) (c:Nat) (h:Hp)
    (hp:ProgAt h pb p pe P1 d1 P2 d2) (hf:FuncAt h fb fo f fcs fe F1 c1 F2 c2 F3 c3) (hl:SlAt h A 2 x.args argR) (hn:x.args.length≤1000000000) :
    TF Tryd.prog 63 ⟨[.pointer (some ⟨pb,0,none⟩),.pointer (some ⟨fb,fo,none⟩),.agg ⟨insC x A c⟩]⟩ h (.bool (rightS p f x)) h:=by
  by_cases h28:x.op=28
  · exact right28_tf p f x pb pe P1 d1 P2 d2 fb fo fcs fe F1 c1 F2 c2 F3 c3 A c h hp hf hl (by omega) h28
  by_cases h29:x.op=29
  · exact right29_tf p f x pb pe P1 d1 P2 d2 fb fo fcs fe F1 c1 F2 c2 F3 c3 A c h hp hf hl hn h29
  by_cases h2:twoS x.op=true∨x.op=27
  · exact right2_tf p f x pb pe P1 d1 P2 d2 fb fo fcs fe F1 c1 F2 c2 F3 c3 A c h hp hf hl hn h2
  by_cases h0:23≤x.op∧x.op≤25
  · exact right0_tf p f x pb pe P1 d1 P2 d2 fb fo fcs fe F1 c1 F2 c2 F3 c3 A c h hp hf hl hn h0
  · refine right1_tf p f x pb pe P1 d1 P2 d2 fb fo fcs fe F1 c1 F2 c2 F3 c3 A c h hp hf hl hn ?_ h0 ?_
    · cases hh:twoS x.op with
      | false=>rfl
      | true=>exact absurd (.inl hh) h2
    · intro hc
      have:x.op=27∨x.op=28∨x.op=29:=by omega
      rcases this with e|e|e
      · exact h2 (.inr e)
      · exact h28 e
      · exact h29 e
def partN (nf:Nat) (x:PartS):Option Int :=
  if x.kind=0 then some x.data.length
  else if x.kind=1 then (if x.n < 0∨(nf:Int)≤x.n then none else some 8)
  else if x.kind=2∨x.kind=3 then some x.n else none
def partsS (nf:Nat):List PartS→Int→Bool
  | [],left=>left == 0
  | x::l,left=>match partN nf x with
    | none=>false
    | some n=>if n < 0∨left < n then false else partsS nf l (left - n)
def placedS (p:ProgS) (g:GlobS):Bool:=decide (0≤g.place) && decide (0≤g.size) && decide (g.size≤p.data) && decide (g.place≤p.data - g.size) && partsS p.funcs.length g.parts g.size
theorem placed_tf (p:ProgS) (g:GlobS) (pb:Nat) (pe:TypeId) (P1:Option Addr) (d1:Nat) (P2:Option Addr) (d2:Nat) (A:Option Addr) (c:Nat) (h:Hp) (hp:h.m pb=some ⟨⟨progC p P1 d1 P2 d2⟩,pe⟩) (hl:SlAt h A 3 g.parts (partR h)) (hn:g.parts.length≤1000000000000000)
    (hd0:0≤p.data∧p.data≤1000000000) (hok:∀ x∈g.parts,fitI x.n∧x.data.length≤1000000000000000) :
    TF Tryd.prog 62 ⟨[.pointer (some ⟨pb,0,none⟩),.agg ⟨globC g A c⟩]⟩ h (.bool (placedS p g)) h:=by
  refine TF.dom fun hd=>?_
  have hpn:=hd _ _ hp
  refine TF.still (fn:=Tryd.f62) (c:=(Tryd.f62.body.getD .skip)) Tryd.func62 (by kernel_rfl) Tryd.ntmps62 (by kernel_rfl) (by simp) ?_
  conv=>arg 2;whnf
  repeat' (first|((with_reducible apply RS.load1B);(iterate 3 exact rfl);exact hp;exact hpn;exact rfl)|((with_reducible first|apply RS.nilCheck|apply RS.move|apply RS.assign|apply RS.lenSl|apply RS.fieldAddr|apply RS.box);iterate 3 exact rfl)|((with_reducible apply RS.pickT);iterate 4 exact rfl)|((with_reducible apply RS.pickF);iterate 4 exact rfl)|((with_reducible apply RS.cmpC);iterate 5 exact rfl)|((with_reducible apply RS.binFit);(iterate 5 exact rfl);omega)|((with_reducible apply RS.bin);iterate 5 exact rfl)|((with_reducible apply RS.load1);iterate 6 exact rfl)|((with_reducible apply RS.skip);iterate 2 exact rfl)|((with_reducible apply RS.nil);exact mixed;kernel_rfl)|(with_reducible first|apply W.seq|apply W.block|apply W.ret|apply W.skip|apply thenK_n|apply thenK_r)|((with_reducible apply W.reg);kernel_rfl)|((with_reducible apply W.condT);kernel_rfl;exact rfl)|(((with_reducible apply RS.splitD);iterate 2 exact rfl)<;>intro _)|((((with_reducible apply RS.splitG);iterate 2 exact rfl)<;>intro _)<;>(fail_if_success cases ‹true=false›)<;>(fail_if_success cases ‹false=true›))|(((with_reducible apply W.condD);exact rfl)<;>intro _)|((((with_reducible apply W.cond);exact rfl)<;>intro _)<;>(fail_if_success cases ‹true=false›)<;>(fail_if_success cases ‹false=true›)))
  rotate_left 4
  · refine W.loop (X:=Nat × Int) (fun π x=>[(0,.pointer (some ⟨pb,0,none⟩)),(5,.int .i64 x.2),(41,.slice A g.parts.length c),(42,.int .i64 g.parts.length),(43,.int .i64 x.1)]) (fun _=>h) (fun π x=>[]) (fun x=>x.1≤g.parts.length∧0≤x.2∧x.2≤g.size∧partsS p.funcs.length g.parts g.size=partsS p.funcs.length (g.parts.drop x.1) x.2) (fun x=>g.parts.length - x.1) [] (0,g.size) ⟨Nat.zero_le _,by simp only;omega,Int.le_refl _,rfl⟩ (by (refine FitL.mk ?_ ?_ ?_ ?_<;>(repeat' (first|exact trivial|exact rfl|apply And.intro));done)) ?_
    intro π x hI
    obtain ⟨i,left⟩:=x
    obtain ⟨hi,hl0,hl1,hI⟩:=hI
    dsimp only at hi hl0 hl1 hI ⊢
    by_cases hlt:i < g.parts.length
    · obtain ⟨x,hx⟩:∃ x,g.parts[i]?=some x:=⟨_,List.getElem?_eq_getElem hlt⟩
      obtain ⟨xb,xo,xcs,xe,rfl,hB,hBl,hBv⟩:=hl.get i x hx
      have hBn:=hd _ _ hB
      obtain ⟨A',c',hBv,_⟩:=hBv
      obtain ⟨hfx,hdx⟩:=hok x (List.mem_of_getElem? hx)
      have hdr:g.parts.drop i=x::g.parts.drop (i+1):=by
        rw [List.drop_eq_getElem_cons hlt]
        rw [List.getElem?_eq_getElem hlt] at hx
        injection hx with hx
        rw [hx]
      rw [hdr,partsS] at hI
      unfold fitI at hfx
      repeat' (first|((with_reducible apply RS.indexAddrS);(iterate 5 exact rfl);omega)|((with_reducible apply RS.loadNB);(iterate 3 exact rfl);exact hB;exact hBn;exact hBl;exact hBv)|((with_reducible apply RS.load1B);(iterate 3 exact rfl);exact hp;exact hpn;exact rfl)|((with_reducible first|apply RS.nilCheck|apply RS.move|apply RS.assign|apply RS.lenSl|apply RS.fieldAddr);iterate 3 exact rfl)|((with_reducible apply RS.pickT);iterate 4 exact rfl)|((with_reducible apply RS.pickF);iterate 4 exact rfl)|((with_reducible apply RS.cmpT);(iterate 4 exact rfl);(simp only [cmpP];omega))|((with_reducible apply RS.cmpF);(iterate 4 exact rfl);(simp only [cmpN];omega))|((with_reducible apply RS.cmpC);iterate 5 exact rfl)|((with_reducible apply RS.add1);(iterate 4 exact rfl);omega)|((with_reducible apply RS.binFit);(iterate 5 exact rfl);omega)|((with_reducible apply RS.bin);iterate 5 exact rfl)|((with_reducible apply RS.load1);iterate 6 exact rfl)|((with_reducible apply RS.store);(iterate 5 exact rfl);exact Nat.le_of_ble_eq_true rfl;iterate 3 exact rfl)|((with_reducible apply RS.alloc);iterate 2 exact rfl)|((with_reducible apply RS.skip);iterate 2 exact rfl)|((with_reducible apply RS.nil);exact mixed;kernel_rfl)|(with_reducible first|apply W.seq|apply W.block|apply W.ret|apply W.skip|apply thenK_n|apply thenK_r|apply blockK_n|apply blockK_r|apply roundK_r)|((with_reducible apply W.reg);kernel_rfl)|((with_reducible apply W.condT);kernel_rfl;exact rfl)|(((with_reducible apply RS.splitD);iterate 2 exact rfl)<;>intro _)|((((with_reducible apply RS.splitG);iterate 2 exact rfl)<;>intro _)<;>(fail_if_success cases ‹true=false›)<;>(fail_if_success cases ‹false=true›))|(((with_reducible apply W.condD);exact rfl)<;>intro _)|((((with_reducible apply W.cond);exact rfl)<;>intro _)<;>(fail_if_success cases ‹true=false›)<;>(fail_if_success cases ‹false=true›)))
      all_goals simp only [gt_iff_lt,ge_iff_le,Int.not_lt,Int.not_le] at *
      all_goals first
        | (refine endsK_ret _ (.cons (.tmp rfl) .nil) ⟨rfl, ?_⟩
           have hz:partsS p.funcs.length g.parts g.size=false:=(by
             first
               | (rw [hI];unfold partN;rw [if_neg (by assumption),if_pos (by assumption),if_neg (by omega)];simp only;rw [if_pos (by omega)])
               | (rw [hI];unfold partN;simp [*]<;>omega))
           simp only [resultOf,Value.bool.injEq,placedS,hz,Bool.and_false])
        | exact roundK_n (i+1,left - x.data.length) [] rfl rfl ⟨by simp only;omega,by simp only;omega,by simp only;omega,by rw [hI];unfold partN;rw [if_pos (by assumption)];simp only;rw [if_neg (by omega)]⟩ (by simp only;omega) (by (refine FitL.mk ?_ ?_ ?_ ?_<;>(repeat' (first|exact trivial|exact rfl|apply And.intro));done))
        | exact roundK_n (i+1,left - 8) [] rfl rfl ⟨by simp only;omega,by simp only;omega,by simp only;omega,by rw [hI];unfold partN;rw [if_neg (by assumption),if_pos (by assumption),if_neg (by omega)];simp only;rw [if_neg (by omega)]⟩ (by simp only;omega) (by (refine FitL.mk ?_ ?_ ?_ ?_<;>(repeat' (first|exact trivial|exact rfl|apply And.intro));done))
        | exact roundK_n (i+1,left - x.n) [] rfl rfl ⟨by simp only;omega,by simp only;omega,by simp only;omega,by rw [hI];unfold partN;rw [if_neg (by assumption),if_neg (by assumption),if_pos (by omega)];simp only;rw [if_neg (by omega)]⟩ (by simp only;omega) (by (refine FitL.mk ?_ ?_ ?_ ?_<;>(repeat' (first|exact trivial|exact rfl|apply And.intro));done))
        | trace_state
    · repeat (first|((with_reducible first|apply RS.move|apply RS.assign);iterate 3 exact rfl)|((with_reducible apply RS.cmpF);(iterate 4 exact rfl);(simp only [cmpN];omega))|((with_reducible apply RS.cmpC);iterate 5 exact rfl)|((with_reducible apply RS.nil);exact mixed;kernel_rfl)|(with_reducible first|apply W.seq|apply W.exit|apply W.ret|apply thenK_n|apply thenK_e|apply roundK_e)|((with_reducible apply W.reg);kernel_rfl)|((with_reducible apply W.condF);kernel_rfl;exact rfl)|((with_reducible apply blockK_hit);exact rfl))
      refine endsK_ret _ (.cons (.tmp rfl) .nil) ⟨rfl,?_⟩
      rw [List.drop_eq_nil_of_le (by omega),partsS] at hI
      simp only [resultOf,Value.bool.injEq,placedS,hI]
      rw [Bool.eq_iff_iff]
      simp
      omega
  all_goals refine endsK_ret _ (.cons (.tmp rfl) .nil) ⟨rfl,?_⟩
  all_goals simp only [resultOf,Value.bool.injEq,placedS]
  all_goals (rw [Bool.eq_iff_iff];simp;omega)
end Go.Proofs.YtjhloakacicdiaaDoor
namespace Go.Proofs.YtjhloakacicdiaaDoor
open Go.AH
attribute [local irreducible] W RS
def blockOK (p:ProgS) (f:FuncS) (b:BlockS):Bool:=b.ins.all (rightS p f) && endsS f b.term
def funcOK (p:ProgS) (f:FuncS):Bool:=decide (0≤f.params) && decide (f.params≤f.regs) && decide (f.params≤6) && decide ((f.secret:Int)=f.params) && decide (0 < f.blocks.length) && f.blocks.all (blockOK p f)
def rightP (p:ProgS):Bool:=decide (paramsAt p p.main=some 0) && decide (0≤p.data) && decide (p.data≤32768) && p.globals.all (placedS p) && p.funcs.all (funcOK p)
theorem rightP_no {p:ProgS} (h:rightP p=false):(if rightP p=true then (0:Int) else 50)=50:=by rw [h];rfl
theorem rightP_yes {p:ProgS} (h:rightP p=true):(if rightP p=true then (0:Int) else 50)=0:=by rw [h];rfl
theorem ProgAt.up {h H:Hp} (hu:∀ i b,h.m i=some b→H.m i=some b) {pb:Nat} {p:ProgS} {pe:TypeId} {A1:Option Addr} {c1:Nat} {A2:Option Addr} {c2:Nat} (r:ProgAt h pb p pe A1 c1 A2 c2):ProgAt H pb p pe A1 c1 A2 c2 :=
  ⟨hu _ _ r.m,r.fs.mono hu fun _ _ hh=>funcR_mono hu hh,r.gs.mono hu fun _ _ hh=>globR_mono hu hh⟩
theorem FuncAt.up {h H:Hp} (hu:∀ i b,h.m i=some b→H.m i=some b) {fb fo:Nat} {f:FuncS} {fcs:List Value} {fe:TypeId} {A1:Option Addr} {c1:Nat} {A2:Option Addr} {c2:Nat} {A3:Option Addr} {c3:Nat} (r:FuncAt h fb fo f fcs fe A1 c1 A2 c2 A3 c3):FuncAt H fb fo f fcs fe A1 c1 A2 c2 A3 c3 :=
  ⟨hu _ _ r.m,r.c,r.sl.mono hu fun _ _ hh=>hh,r.bl.mono hu fun _ _ hh=>blockR_mono hu hh⟩
set_option maxRecDepth 100000 in
theorem Right_tf (p:ProgS) (hok:p.ok) (hargs:∀ f∈p.funcs,∀ b∈f.blocks,∀ x∈b.ins,x.args.length≤1000000000) (pb:Nat) (pe:TypeId) (P1:Option Addr) (d1:Nat) (P2:Option Addr) (d2:Nat) (h:Hp) (hp:ProgAt h pb p pe P1 d1 P2 d2) :
    TF Tryd.prog 37 ⟨[.pointer (some ⟨pb,0,none⟩)]⟩ h (.int .i64 (if rightP p=true then 0 else 50)) h:=by
  refine TF.dom fun hd=>?_
  have hpn:=hd _ _ hp.m
  by_cases hr:0≤p.main∧p.main < p.funcs.length
  · obtain ⟨fm,hfm⟩:∃ g,p.funcs[p.main.toNat]?=some g:=⟨_,List.getElem?_eq_getElem (by omega)⟩
    obtain ⟨mb,mo,mcs,me,rfl,hM,hMl,hMv⟩:=hp.fs.get _ fm hfm
    have hMn:=hd _ _ hM
    obtain ⟨G1,k1,G2,k2,G3,k3,hgc,_,_⟩:=hMv
    have hMc:=take_nth (j:=1) hgc rfl
    have hpa:paramsAt p p.main=some fm.params:=by unfold paramsAt;rw [if_pos hr.1,hfm];rfl
    have hnf:=hok.nfuncs
    have hng:=hok.nglobs
    refine TF.still (fn:=Tryd.f37) (c:=(Tryd.f37.body.getD .skip)) Tryd.func37 (by kernel_rfl) Tryd.ntmps37 (by kernel_rfl) (by simp) ?_
    conv=>arg 2;whnf
    repeat' (first|((with_reducible apply RS.eqPtrNil);iterate 4 exact rfl)|((with_reducible apply RS.load1B);(iterate 3 exact rfl);first|exact hp.m;exact hpn;exact rfl|exact hM;exact hMn;exact hMc)|((with_reducible apply RS.indexAddrS);(iterate 4 exact rfl);exact (Int.toNat_of_nonneg hr.1).symm;omega)|((with_reducible first|apply RS.nilCheck|apply RS.move|apply RS.assign|apply RS.lenSl|apply RS.fieldAddr);iterate 3 exact rfl)|((with_reducible apply RS.pickT);iterate 4 exact rfl)|((with_reducible apply RS.pickF);iterate 4 exact rfl)|((with_reducible apply RS.cmpF);(iterate 4 exact rfl);(simp only [cmpN];omega))|((with_reducible apply RS.cmpC);iterate 5 exact rfl)|((with_reducible apply RS.skip);iterate 2 exact rfl)|((with_reducible apply RS.nil);exact mixed;kernel_rfl)|(with_reducible first|apply W.seq|apply W.block|apply W.ret|apply W.skip|apply thenK_n|apply thenK_r)|((with_reducible apply W.reg);kernel_rfl)|((with_reducible apply W.condT);kernel_rfl;exact rfl)|(((with_reducible apply RS.splitD);iterate 2 exact rfl)<;>intro _)|((((with_reducible apply RS.splitG);iterate 2 exact rfl)<;>intro _)<;>(fail_if_success cases ‹true=false›)<;>(fail_if_success cases ‹false=true›))|(((with_reducible apply W.condD);exact rfl)<;>intro _)|((((with_reducible apply W.cond);exact rfl)<;>intro _)<;>(fail_if_success cases ‹true=false›)<;>(fail_if_success cases ‹false=true›)))
    rotate_left 3
    · rename_i hq1 hq2 hq3
      have hp0:fm.params=0:=by simpa using hq1
      have hdat:0≤p.data∧p.data≤1000000000:=by omega
      have hhead:rightP p=(p.globals.all (placedS p) && p.funcs.all (funcOK p)):=by
        unfold rightP
        rw [hpa,hp0,decide_eq_true rfl,decide_eq_true (by omega:0≤p.data),decide_eq_true (by omega:p.data≤32768)]
        simp
      refine W.joinB (X:=Unit) (fun π x=>[(0,.pointer (some ⟨pb,0,none⟩))]) (fun _=>h) (fun π x=>[]) (fun x=>p.globals.all (placedS p)=true) 0 ?_ ?_
      · refine W.loop (X:=Nat) (fun π i=>[(0,.pointer (some ⟨pb,0,none⟩)),(61,.slice P2 p.globals.length d2),(62,.int .i64 p.globals.length),(63,.int .i64 i)]) (fun _=>h) (fun π i=>[]) (fun i=>i≤p.globals.length∧p.globals.all (placedS p)=(p.globals.drop i).all (placedS p)) (fun i=>p.globals.length - i) [] 0 ⟨Nat.zero_le _,rfl⟩ (by (refine FitL.mk ?_ ?_ ?_ ?_<;>(repeat' (first|exact trivial|exact rfl|apply And.intro));done)) ?_
        intro π i hI
        obtain ⟨hi,hI⟩:=hI
        dsimp only at hi hI ⊢
        by_cases hlt:i < p.globals.length
        · obtain ⟨g,hg⟩:∃ g,p.globals[i]?=some g:=⟨_,List.getElem?_eq_getElem hlt⟩
          obtain ⟨gb,go,gcs,ge,rfl,hG,hGl,hGv⟩:=hp.gs.get i g hg
          have hGn:=hd _ _ hG
          obtain ⟨A',c',hGv,hGs⟩:=hGv
          have hgm:=hok.globs g (List.mem_of_getElem? hg)
          have hgn:=hgm.nparts
          have hgok:∀ x∈g.parts,fitI x.n∧x.data.length≤1000000000000000:=fun x hx=>⟨(hgm.parts x hx).n,by have:=(hgm.parts x hx).ndata;omega⟩
          rw [all_drop hg] at hI
          repeat' (first|((with_reducible apply RS.indexAddrS);(iterate 5 exact rfl);omega)|((with_reducible apply RS.loadNB);(iterate 3 exact rfl);exact hG;exact hGn;exact hGl;exact hGv)|((with_reducible apply RS.callR true []);(iterate 3 exact rfl);exact fun H hH=>placed_tf p g pb pe _ d1 _ d2 _ _ H (sees_up hH hd _ _ hp.m) (hGs.mono (sees_up hH hd) fun _ _ hh=>partR_mono (sees_up hH hd) hh) (by omega) hdat hgok;exact Nm_free (by simp))|((with_reducible first|apply RS.move|apply RS.assign|apply RS.not);iterate 3 exact rfl)|((with_reducible apply RS.cmpT);(iterate 4 exact rfl);(simp only [cmpP];omega))|((with_reducible apply RS.add1);(iterate 4 exact rfl);omega)|((with_reducible apply RS.loadN);(iterate 5 exact rfl);exact Nat.le_of_ble_eq_true rfl)|((with_reducible apply RS.store);(iterate 5 exact rfl);exact Nat.le_of_ble_eq_true rfl;iterate 3 exact rfl)|((with_reducible apply RS.alloc);iterate 2 exact rfl)|((with_reducible apply RS.nil);exact mixed;kernel_rfl)|(with_reducible first|apply W.seq|apply W.block|apply W.ret|apply W.skip|apply thenK_n|apply thenK_r|apply blockK_n|apply blockK_r|apply roundK_r|apply joinK_r)|((with_reducible apply W.reg);kernel_rfl)|((with_reducible apply W.condT);kernel_rfl;exact rfl)|(((with_reducible apply RS.splitD);iterate 2 exact rfl)<;>intro _)|((((with_reducible apply RS.splitG);iterate 2 exact rfl)<;>intro _)<;>(fail_if_success cases ‹true=false›)<;>(fail_if_success cases ‹false=true›))|(((with_reducible apply W.condD);exact rfl)<;>intro _)|((((with_reducible apply W.cond);exact rfl)<;>intro _)<;>(fail_if_success cases ‹true=false›)<;>(fail_if_success cases ‹false=true›)))
          · refine endsK_ret _ (.cons (.tmp rfl) .nil) ⟨rfl,?_⟩
            have hz:placedS p g=false:=by simpa using ‹(!placedS p g)=true›
            rw [hz,Bool.false_and] at hI
            rw [rightP_no (by rw [hhead,hI,Bool.false_and])];rfl
          · have hz:placedS p g=true:=by simpa using ‹(!placedS p g)=false›
            rw [hz,Bool.true_and] at hI
            exact roundK_n (i+1) [] rfl rfl ⟨by omega,hI⟩ (by omega) (by (refine FitL.mk ?_ ?_ ?_ ?_<;>(repeat' (first|exact trivial|exact rfl|apply And.intro));done))
        · repeat (first|((with_reducible apply RS.cmpF);(iterate 4 exact rfl);(simp only [cmpN];omega))|((with_reducible apply RS.nil);exact mixed;kernel_rfl)|(with_reducible first|apply W.seq|apply W.exit|apply thenK_n|apply thenK_e|apply roundK_e)|((with_reducible apply W.reg);kernel_rfl)|((with_reducible apply W.condF);kernel_rfl;exact rfl)|((with_reducible apply blockK_hit);exact rfl))
          rw [List.drop_eq_nil_of_le (by omega)] at hI
          exact joinK_n () [] rfl rfl hI (by (refine FitL.mk ?_ ?_ ?_ ?_<;>(repeat' (first|exact trivial|exact rfl|apply And.intro));done))
      · intro π x hgl
        rw [hgl,Bool.true_and] at hhead
        repeat (first|((with_reducible apply RS.load1B);(iterate 3 exact rfl);exact hp.m;exact hpn;exact rfl)|((with_reducible first|apply RS.nilCheck|apply RS.move|apply RS.lenSl|apply RS.fieldAddr);iterate 3 exact rfl)|((with_reducible apply RS.nil);exact mixed;kernel_rfl)|(with_reducible first|apply W.seq|apply W.block|apply thenK_n)|((with_reducible apply W.reg);kernel_rfl))
        refine W.loop (X:=Nat) (fun π i=>[(0,.pointer (some ⟨pb,0,none⟩)),(76,.int .i64 p.funcs.length),(77,.int .i64 i)]) (fun _=>h) (fun π i=>[]) (fun i=>i≤p.funcs.length∧p.funcs.all (funcOK p)=(p.funcs.drop i).all (funcOK p)) (fun i=>p.funcs.length - i) [] 0 ⟨Nat.zero_le _,rfl⟩ (by (refine FitL.mk ?_ ?_ ?_ ?_<;>(repeat' (first|exact trivial|exact rfl|apply And.intro));done)) ?_
        intro π i hI
        obtain ⟨hi,hI⟩:=hI
        dsimp only at hi hI ⊢
        by_cases hlt:i < p.funcs.length
        · obtain ⟨f,hf⟩:∃ f,p.funcs[i]?=some f:=⟨_,List.getElem?_eq_getElem hlt⟩
          obtain ⟨fb,fo,fcs,fe,hPe,hF,hFl,hFv⟩:=hp.fs.get i f hf
          injection hPe with hPe
          injection hPe with hPe1 hPe2
          subst hPe1
          subst hPe2
          have hFn:=hd _ _ hF
          obtain ⟨F1,c1,F2,c2,F3,c3,hFv,hFsl,hFbl⟩:=hFv
          have hfat:FuncAt h mb (mo+i * 6) f fcs fe F1 c1 F2 c2 F3 c3:=⟨hF,fun j v hv=>take_nth hFv hv,hFsl,hFbl⟩
          have hfm:=hok.funcs f (List.mem_of_getElem? hf)
          have hnb:=hfm.nblocks
          have hnsec:=hfm.nsec
          rw [all_drop hf] at hI
          have hfno:funcOK p f=false→rightP p=false:=fun hz=>by rw [hz,Bool.false_and] at hI;rw [hhead,hI]
          repeat' (first|((with_reducible apply RS.load1B);(iterate 3 exact rfl);exact hp.m;exact hpn;exact rfl)|((with_reducible apply RS.indexAddrS);(iterate 5 exact rfl);omega)|((with_reducible apply RS.load1B);(iterate 3 exact rfl);exact hF;exact hFn;(first|exact hfat.c 1 _ rfl|exact hfat.c 2 _ rfl|exact hfat.c 3 _ rfl|exact hfat.c 5 _ rfl))|((with_reducible first|apply RS.nilCheck|apply RS.move|apply RS.assign|apply RS.lenSl|apply RS.fieldAddr);iterate 3 exact rfl)|((with_reducible apply RS.pickT);iterate 4 exact rfl)|((with_reducible apply RS.pickF);iterate 4 exact rfl)|((with_reducible apply RS.cmpT);(iterate 4 exact rfl);(simp only [cmpP];omega))|((with_reducible apply RS.cmpC);iterate 5 exact rfl)|((with_reducible apply RS.bin);iterate 5 exact rfl)|((with_reducible apply RS.skip);iterate 2 exact rfl)|((with_reducible apply RS.nil);exact mixed;kernel_rfl)|(with_reducible first|apply W.seq|apply W.block|apply W.ret|apply W.skip|apply thenK_n|apply thenK_r|apply blockK_r|apply roundK_r)|((with_reducible apply W.reg);kernel_rfl)|((with_reducible apply W.condT);kernel_rfl;exact rfl)|(((with_reducible apply RS.splitD);iterate 2 exact rfl)<;>intro _)|((((with_reducible apply RS.splitG);iterate 2 exact rfl)<;>intro _)<;>(fail_if_success cases ‹true=false›)<;>(fail_if_success cases ‹false=true›))|(((with_reducible apply W.condD);exact rfl)<;>intro _)|((((with_reducible apply W.cond);exact rfl)<;>intro _)<;>(fail_if_success cases ‹true=false›)<;>(fail_if_success cases ‹false=true›)))
          rotate_left 5
          · rename_i v1 v2 v3 v4 v5
            have v4':(f.secret:Int)=f.params:=by simpa using v4
            have hfh:funcOK p f=f.blocks.all (blockOK p f):=by
              unfold funcOK
              rw [decide_eq_true (by omega:0≤f.params),decide_eq_true (by omega:f.params≤f.regs),decide_eq_true (by omega:f.params≤6),decide_eq_true v4',decide_eq_true (by omega:0 < f.blocks.length)]
              simp
            refine W.loop (X:=Nat) (fun π j=>[(0,.pointer (some ⟨pb,0,none⟩)),(76,.int .i64 p.funcs.length),(77,.int .i64 i),(6,.pointer (some ⟨mb,mo+i * 6,none⟩)),(132,.slice F3 f.blocks.length c3),(133,.int .i64 f.blocks.length),(134,.int .i64 j)]) (fun _=>h) (fun π j=>[]) (fun j=>j≤f.blocks.length∧f.blocks.all (blockOK p f)=(f.blocks.drop j).all (blockOK p f)) (fun j=>f.blocks.length - j) [] 0 ⟨Nat.zero_le _,rfl⟩ (by (refine FitL.mk ?_ ?_ ?_ ?_<;>(repeat' (first|exact trivial|exact rfl|apply And.intro));done)) ?_
            intro π j hJ
            obtain ⟨hj,hJ⟩:=hJ
            dsimp only at hj hJ ⊢
            by_cases hlj:j < f.blocks.length
            · obtain ⟨b,hb⟩:∃ b,f.blocks[j]?=some b:=⟨_,List.getElem?_eq_getElem hlj⟩
              obtain ⟨bb,bo,bcs,be,rfl,hB,hBl,hBv⟩:=hFbl.get j b hb
              have hBn:=hd _ _ hB
              obtain ⟨A',c',hBv,hBi⟩:=hBv
              have hbm:=hfm.blocks b (List.mem_of_getElem? hb)
              have hni:=hbm.n
              rw [all_drop hb] at hJ
              have hbno:blockOK p f b=false→rightP p=false:=fun hz=>by rw [hz,Bool.false_and] at hJ;exact hfno (by rw [hfh,hJ])
              repeat (first|((with_reducible apply RS.indexAddrS);(iterate 5 exact rfl);omega)|((with_reducible apply RS.loadNB);(iterate 3 exact rfl);exact hB;exact hBn;exact hBl;exact hBv)|((with_reducible first|apply RS.move|apply RS.lenSl|apply RS.fieldAddr);iterate 3 exact rfl)|((with_reducible apply RS.cmpT);(iterate 4 exact rfl);(simp only [cmpP];omega))|((with_reducible apply RS.load1);iterate 6 exact rfl)|((with_reducible apply RS.store);(iterate 5 exact rfl);exact Nat.le_of_ble_eq_true rfl;iterate 3 exact rfl)|((with_reducible apply RS.alloc);iterate 2 exact rfl)|((with_reducible apply RS.nil);exact mixed;kernel_rfl)|(with_reducible first|apply W.seq|apply W.block|apply W.skip|apply thenK_n)|((with_reducible apply W.reg);kernel_rfl)|((with_reducible apply W.condT);kernel_rfl;exact rfl))
              refine W.joinB (X:=Unit) (fun π _=>[(0,.pointer (some ⟨pb,0,none⟩)),(76,.int .i64 p.funcs.length),(77,.int .i64 i),(6,.pointer (some ⟨mb,mo+i * 6,none⟩)),(132,.slice (some ⟨bb,bo,none⟩) f.blocks.length c3),(133,.int .i64 f.blocks.length),(134,.int .i64 j),(8,.pointer (some ⟨π 0,0,none⟩))]) (fun _=>h) (fun π _=>[(0,some ⟨⟨blockC b A' c'⟩,50⟩)]) (fun _=>b.ins.all (rightS p f)=true) 1 ?_ ?_
              · refine W.loop (X:=Nat) (fun π k=>[(0,.pointer (some ⟨pb,0,none⟩)),(76,.int .i64 p.funcs.length),(77,.int .i64 i),(6,.pointer (some ⟨mb,mo+i * 6,none⟩)),(132,.slice (some ⟨bb,bo,none⟩) f.blocks.length c3),(133,.int .i64 f.blocks.length),(134,.int .i64 j),(8,.pointer (some ⟨π 0,0,none⟩)),(139,.slice A' b.ins.length c'),(140,.int .i64 b.ins.length),(141,.int .i64 k)]) (fun _=>h) (fun π k=>[(0,some ⟨⟨blockC b A' c'⟩,50⟩)]) (fun k=>k≤b.ins.length∧b.ins.all (rightS p f)=(b.ins.drop k).all (rightS p f)) (fun k=>b.ins.length - k) [0] 0 ⟨Nat.zero_le _,rfl⟩ (by (refine FitL.mk ?_ ?_ ?_ ?_<;>(repeat' (first|exact trivial|exact rfl|apply And.intro));done)) ?_
                intro π k hK
                obtain ⟨hk,hK⟩:=hK
                dsimp only at hk hK ⊢
                by_cases hlk:k < b.ins.length
                · obtain ⟨x,hx⟩:∃ x,b.ins[k]?=some x:=⟨_,List.getElem?_eq_getElem hlk⟩
                  obtain ⟨xb,xo,xcs,xe,rfl,hX,hXl,hXv⟩:=hBi.get k x hx
                  have hXn:=hd _ _ hX
                  obtain ⟨A'',c'',hXv,hXs⟩:=hXv
                  have hxn:=hargs f (List.mem_of_getElem? hf) b (List.mem_of_getElem? hb) x (List.mem_of_getElem? hx)
                  rw [all_drop hx] at hK
                  repeat' (first|((with_reducible apply RS.indexAddrS);(iterate 5 exact rfl);omega)|((with_reducible apply RS.loadNB);(iterate 3 exact rfl);exact hX;exact hXn;exact hXl;exact hXv)|((with_reducible apply RS.callR true []);(iterate 3 exact rfl);exact fun H hH=>right_tf p f x pb pe _ d1 _ d2 mb _ fcs fe F1 c1 F2 c2 _ c3 _ _ H (hp.up (sees_up hH hd)) (hfat.up (sees_up hH hd)) (hXs.mono (sees_up hH hd) fun _ _ hh=>hh) hxn;exact Nm_free (by simp))|((with_reducible first|apply RS.move|apply RS.assign|apply RS.not);iterate 3 exact rfl)|((with_reducible apply RS.cmpT);(iterate 4 exact rfl);(simp only [cmpP];omega))|((with_reducible apply RS.add1);(iterate 4 exact rfl);omega)|((with_reducible apply RS.loadN);(iterate 5 exact rfl);exact Nat.le_of_ble_eq_true rfl)|((with_reducible apply RS.store);(iterate 5 exact rfl);exact Nat.le_of_ble_eq_true rfl;iterate 3 exact rfl)|((with_reducible apply RS.alloc);iterate 2 exact rfl)|((with_reducible apply RS.nil);exact mixed;kernel_rfl)|(with_reducible first|apply W.seq|apply W.block|apply W.ret|apply W.skip|apply thenK_n|apply thenK_r|apply blockK_n|apply blockK_r|apply roundK_r|apply joinK_r)|((with_reducible apply W.reg);kernel_rfl)|((with_reducible apply W.condT);kernel_rfl;exact rfl)|(((with_reducible apply RS.splitD);iterate 2 exact rfl)<;>intro _)|((((with_reducible apply RS.splitG);iterate 2 exact rfl)<;>intro _)<;>(fail_if_success cases ‹true=false›)<;>(fail_if_success cases ‹false=true›))|(((with_reducible apply W.condD);exact rfl)<;>intro _)|((((with_reducible apply W.cond);exact rfl)<;>intro _)<;>(fail_if_success cases ‹true=false›)<;>(fail_if_success cases ‹false=true›)))
                  · refine endsK_ret _ (.cons (.tmp rfl) .nil) ⟨rfl,?_⟩
                    have hz:rightS p f x=false:=by simpa using ‹(!rightS p f x)=true›
                    rw [hz,Bool.false_and] at hK
                    rw [rightP_no (hbno (by unfold blockOK;rw [hK,Bool.false_and]))];rfl
                  · have hz:rightS p f x=true:=by simpa using ‹(!rightS p f x)=false›
                    rw [hz,Bool.true_and] at hK
                    exact roundK_n (k+1) [0] rfl rfl ⟨by omega,hK⟩ (by omega) (by (refine FitL.mk ?_ ?_ ?_ ?_<;>(repeat' (first|exact trivial|exact rfl|apply And.intro));done))
                · repeat (first|((with_reducible apply RS.cmpF);(iterate 4 exact rfl);(simp only [cmpN];omega))|((with_reducible apply RS.nil);exact mixed;kernel_rfl)|(with_reducible first|apply W.seq|apply W.exit|apply thenK_n|apply thenK_e|apply roundK_e)|((with_reducible apply W.reg);kernel_rfl)|((with_reducible apply W.condF);kernel_rfl;exact rfl)|((with_reducible apply blockK_hit);exact rfl))
                  rw [List.drop_eq_nil_of_le (by omega)] at hK
                  exact joinK_n () [0] rfl rfl hK (by (refine FitL.mk ?_ ?_ ?_ ?_<;>(repeat' (first|exact trivial|exact rfl|apply And.intro));done))
              · intro π _ hins
                repeat' (first|((with_reducible apply RS.callR true []);(iterate 3 exact rfl);exact fun H hH=>ends_tf f b.term mb _ fcs fe _ c3 H (sees_up hH hd _ _ hF) (hfat.c 3 _ rfl) (hfat.c 5 _ rfl) (by omega);exact Nm_free (by simp))|((with_reducible first|apply RS.move|apply RS.assign|apply RS.not|apply RS.fieldAddr);iterate 3 exact rfl)|((with_reducible apply RS.add1);(iterate 4 exact rfl);omega)|((with_reducible apply RS.loadN);(iterate 5 exact rfl);exact Nat.le_of_ble_eq_true rfl)|((with_reducible apply RS.nil);exact mixed;kernel_rfl)|(with_reducible first|apply W.seq|apply W.ret|apply W.skip|apply thenK_n|apply thenK_r|apply blockK_n|apply blockK_r|apply roundK_r)|((with_reducible apply W.reg);kernel_rfl)|(((with_reducible apply RS.splitD);iterate 2 exact rfl)<;>intro _)|((((with_reducible apply RS.splitG);iterate 2 exact rfl)<;>intro _)<;>(fail_if_success cases ‹true=false›)<;>(fail_if_success cases ‹false=true›))|(((with_reducible apply W.condD);exact rfl)<;>intro _)|((((with_reducible apply W.cond);exact rfl)<;>intro _)<;>(fail_if_success cases ‹true=false›)<;>(fail_if_success cases ‹false=true›)))
                · refine endsK_ret _ (.cons (.tmp rfl) .nil) ⟨rfl,?_⟩
                  have hz:endsS f b.term=false:=by simpa using ‹(!endsS f b.term)=true›
                  rw [rightP_no (hbno (by unfold blockOK;rw [hz,Bool.and_false]))];rfl
                · have hz:endsS f b.term=true:=by simpa using ‹(!endsS f b.term)=false›
                  have hbt:blockOK p f b=true:=by unfold blockOK;rw [hins,hz];rfl
                  rw [hbt,Bool.true_and] at hJ
                  exact roundK_n (j+1) [] rfl rfl ⟨by omega,hJ⟩ (by omega) (by (refine FitL.mk ?_ ?_ ?_ ?_<;>(repeat' (first|exact trivial|exact rfl|apply And.intro));done))
            · repeat (first|((with_reducible apply RS.move);iterate 3 exact rfl)|((with_reducible apply RS.cmpF);(iterate 4 exact rfl);(simp only [cmpN];omega))|((with_reducible apply RS.add1);(iterate 4 exact rfl);omega)|((with_reducible apply RS.nil);exact mixed;kernel_rfl)|(with_reducible first|apply W.seq|apply W.exit|apply thenK_n|apply thenK_e|apply blockK_n|apply roundK_e)|((with_reducible apply W.reg);kernel_rfl)|((with_reducible apply W.condF);kernel_rfl;exact rfl)|((with_reducible apply blockK_hit);exact rfl))
              rw [List.drop_eq_nil_of_le (by omega)] at hJ
              rw [hfh,hJ] at hI
              exact roundK_n (i+1) [] rfl rfl ⟨by omega,hI⟩ (by omega) (by (refine FitL.mk ?_ ?_ ?_ ?_<;>(repeat' (first|exact trivial|exact rfl|apply And.intro));done))
          all_goals refine endsK_ret _ (.cons (.tmp rfl) .nil) ⟨rfl,?_⟩
          · rw [rightP_no (hfno (by unfold funcOK;simp;omega))];rfl
          · rw [rightP_no (hfno (by unfold funcOK;simp;omega))];rfl
          · rw [rightP_no (hfno (by unfold funcOK;simp;omega))];rfl
          · have hne:¬ (f.secret:Int)=f.params:=by simpa using ‹((f.secret:Int) != f.params)=true›
            rw [rightP_no (hfno (by unfold funcOK;rw [decide_eq_false hne];simp))];rfl
          · have hne:¬ 0 < f.blocks.length:=by omega
            rw [rightP_no (hfno (by unfold funcOK;rw [decide_eq_false hne];simp))];rfl
        · repeat (first|((with_reducible apply RS.assign);iterate 3 exact rfl)|((with_reducible apply RS.cmpF);(iterate 4 exact rfl);(simp only [cmpN];omega))|((with_reducible apply RS.nil);exact mixed;kernel_rfl)|(with_reducible first|apply W.seq|apply W.exit|apply W.ret|apply thenK_n|apply thenK_e|apply roundK_e)|((with_reducible apply W.reg);kernel_rfl)|((with_reducible apply W.condF);kernel_rfl;exact rfl)|((with_reducible apply blockK_hit);exact rfl))
          rw [List.drop_eq_nil_of_le (by omega)] at hI
          refine endsK_ret _ (.cons (.tmp rfl) .nil) ⟨rfl,?_⟩
          rw [rightP_yes (by rw [hhead,hI];rfl)];rfl
    all_goals refine endsK_ret _ (.cons (.tmp rfl) .nil) ⟨rfl,?_⟩
    · have hz:rightP p=false:=by
        unfold rightP;rw [hpa]
        have:fm.params≠0:=by simpa using ‹(fm.params != 0)=true›
        simp [this]
      rw [rightP_no hz];rfl
    · have hz:rightP p=false:=by unfold rightP;simp;omega
      rw [rightP_no hz];rfl
    · have hz:rightP p=false:=by unfold rightP;simp;omega
      rw [rightP_no hz];rfl
  · have hpa:paramsAt p p.main=none:=by
      unfold paramsAt
      split
      · rw [List.getElem?_eq_none (by omega)];rfl
      · rfl
    have hz:rightP p=false:=by unfold rightP;rw [hpa];simp
    rw [rightP_no hz]
    refine TF.still (fn:=Tryd.f37) (c:=(Tryd.f37.body.getD .skip)) Tryd.func37 (by kernel_rfl) Tryd.ntmps37 (by kernel_rfl) (by simp) ?_
    conv=>arg 2;whnf
    repeat' (first|((with_reducible apply RS.eqPtrNil);iterate 4 exact rfl)|((with_reducible apply RS.load1B);(iterate 3 exact rfl);exact hp.m;exact hpn;exact rfl)|((with_reducible first|apply RS.nilCheck|apply RS.move|apply RS.assign|apply RS.lenSl|apply RS.fieldAddr);iterate 3 exact rfl)|((with_reducible apply RS.pickT);iterate 4 exact rfl)|((with_reducible apply RS.pickF);iterate 4 exact rfl)|((with_reducible apply RS.cmpT);(iterate 4 exact rfl);(simp only [cmpP];omega))|((with_reducible apply RS.cmpC);iterate 5 exact rfl)|((with_reducible apply RS.skip);iterate 2 exact rfl)|((with_reducible apply RS.nil);exact mixed;kernel_rfl)|(with_reducible first|apply W.seq|apply W.ret|apply thenK_n|apply thenK_r)|((with_reducible apply W.reg);kernel_rfl)|((with_reducible apply W.condT);kernel_rfl;exact rfl)|(((with_reducible apply RS.splitD);iterate 2 exact rfl)<;>intro _)|((((with_reducible apply RS.splitG);iterate 2 exact rfl)<;>intro _)<;>(fail_if_success cases ‹true=false›)<;>(fail_if_success cases ‹false=true›))|(((with_reducible apply W.condD);exact rfl)<;>intro _)|((((with_reducible apply W.cond);exact rfl)<;>intro _)<;>(fail_if_success cases ‹true=false›)<;>(fail_if_success cases ‹false=true›)))
    all_goals exact endsK_ret _ (.cons (.tmp rfl) .nil) ⟨rfl,rfl⟩
end Go.Proofs.YtjhloakacicdiaaDoor
namespace Go.Proofs.YtjhloakacicdiaaDoor
open Go.AH
abbrev SetS:=List (BitVec 64)
def bitS (i:Nat):BitVec 64:=1#64 <<< (i % 64)
def emptyS (n:Int):SetS:=List.replicate (((max n 0).toNat+63) / 64) 0
def hasS (s:SetS) (i:Int):Bool:=decide (0≤i) && (match s[i.toNat / 64]? with
  | some w=>w.getLsbD (i.toNat % 64)
  | none=>false)
def putS (s:SetS) (i:Int):SetS:=if 0≤i then s.modify (i.toNat / 64) (· ||| bitS i.toNat) else s
def outS (s:SetS) (i:Int):SetS:=if 0≤i then s.modify (i.toNat / 64) (· &&& ~~~ bitS i.toNat) else s
def joinS:SetS→SetS→SetS
  | w::s,o::t=>(w ||| o)::joinS s t
  | s,[]=>s
  | [],_=>[]
theorem joinS_length:∀ s t:SetS,(joinS s t).length=s.length
  | [],[]=>rfl
  | [],_::_=>rfl
  | _::_,[]=>rfl
  | _::s,_::t=>by simp [joinS,joinS_length s t]
theorem putS_length (s:SetS) (i:Int):(putS s i).length=s.length:=by unfold putS;split<;>simp
theorem outS_length (s:SetS) (i:Int):(outS s i).length=s.length:=by unfold outS;split<;>simp
theorem bitS_get (i j:Nat) (hj:j < 64):(bitS i).getLsbD j=decide (i % 64=j):=by
  unfold bitS
  rw [BitVec.getLsbD_shiftLeft]
  have:i % 64 < 64:=Nat.mod_lt _ (by decide)
  by_cases h:i % 64=j
  · subst h;simp [hj]
  · rw [decide_eq_false h]
    by_cases h2:j < i % 64
    · simp [h2]
    · have:j - i % 64≠0:=by omega
      simp [this]
theorem mod_get (s:SetS) (f:BitVec 64→BitVec 64) (i j:Nat):(s.modify i f)[j]?=if i=j then (s[j]?).map f else s[j]?:=by
  rw [List.getElem?_modify]
  cases s[j]?<;>by_cases h:i=j<;>simp [h]
theorem hasS_put (s:SetS) (i j:Int):hasS (putS s i) j=(hasS s j || (decide (i=j) && decide (0≤j) && decide (j.toNat / 64 < s.length))):=by
  unfold hasS putS
  by_cases hj:0≤j
  · by_cases hi:0≤i
    · rw [if_pos hi,mod_get]
      by_cases e:i.toNat / 64=j.toNat / 64
      · rw [if_pos e]
        cases hw:s[j.toNat / 64]? with
        | none =>
          have:¬ j.toNat / 64 < s.length:=by rw [List.getElem?_eq_none_iff] at hw;omega
          simp [this]
        | some w =>
          have hlt:=(List.getElem?_eq_some_iff.1 hw).1
          have hm:j.toNat % 64 < 64:=Nat.mod_lt _ (by decide)
          simp only [hj,decide_true,Bool.true_and,Option.map_some,BitVec.getLsbD_or,bitS_get _ _ hm,hlt,Bool.and_true]
          congr 1
          simp only [decide_eq_decide]
          omega
      · rw [if_neg e]
        have:i≠j:=fun h=>e (by rw [h])
        simp [this]
    · have:i≠j:=by omega
      simp [hi,this]
  · simp [hj]
theorem joinS_get:∀ (s t:SetS) (k:Nat),(joinS s t)[k]?=(s[k]?).map fun w=>w ||| (t[k]?).getD 0
  | [],[],k=>by simp [joinS]
  | [],_::_,k=>by simp [joinS]
  | w::s,[],k=>by simp [joinS]
  | w::s,o::t,0=>by simp [joinS]
  | w::s,o::t,k+1=>by simp [joinS,joinS_get s t k]
theorem hasS_empty (n j:Int):hasS (emptyS n) j=false:=by
  unfold hasS emptyS
  rw [List.getElem?_replicate]
  split
  · rename_i w hw
    split at hw
    · simp only [Option.some.injEq] at hw;subst hw;simp
    · cases hw
  · simp
def reachPush (s:SetS) (work:List Int):List Int→SetS × List Int
  | []=>(s,work)
  | k::l=>if hasS s k=true then reachPush s work l else reachPush (putS s k) (k::work) l
def nextAt (bl:List BlockS) (n:Int):List Int:=match bl[n.toNat]? with
  | some b=>nextS b.term
  | none=>[]
def reachGo (bl:List BlockS):Nat→SetS→List Int→SetS
  | 0,s,_=>s
  | _+1,s,[]=>s
  | m+1,s,n::work=>reachGo bl m (reachPush s work (nextAt bl n)).1 (reachPush s work (nextAt bl n)).2
def reachedS (bl:List BlockS):SetS:=if bl.length=0 then emptyS 0 else reachGo bl (2 * bl.length+2) (putS (emptyS bl.length) 0) [0]
def useS (s:SetS) (l:List ArgS):SetS:=l.foldl (fun s a=>putS s a.reg) s
def backS (s:SetS) (x:InsS):SetS:=useS (outS s x.dst) (readsS x)
def liveIn (b:BlockS) (o:SetS):SetS:=b.ins.reverse.foldl backS (useS o (treadsS b.term))
structure LiveS where
  ins:List SetS
  outs:List SetS
  again:Bool
def liveOut (ins:List SetS) (o:SetS) (l:List Int):SetS:=l.foldl (fun o k=>joinS o (ins[k.toNat]?.getD [])) o
def liveStep (bl:List BlockS) (st:LiveS) (i:Nat):LiveS:=match bl[i]? with
  | some b =>
    let o:=liveOut st.ins (st.outs[i]?.getD []) (nextS b.term)
    let a:=st.ins[i]?.getD []
    let n:=joinS a (liveIn b o)
    ⟨st.ins.set i n,st.outs.set i o,st.again || n != a⟩
  | none=>st
def liveDown (bl:List BlockS):Nat→LiveS→LiveS
  | 0,st=>st
  | i+1,st=>liveDown bl i (liveStep bl st i)
def liveRound (bl:List BlockS) (st:LiveS):LiveS:=liveDown bl bl.length { st with again:=false }
inductive LiveRun (bl:List BlockS):LiveS→LiveS→Prop
  | stop {st:LiveS} (h:(liveRound bl st).again=false):LiveRun bl st (liveRound bl st)
  | go {st st':LiveS} (h:(liveRound bl st).again=true) (hr:LiveRun bl (liveRound bl st) st'):LiveRun bl st st'
theorem LiveRun.det {bl:List BlockS} {a b c:LiveS} (h1:LiveRun bl a b) (h2:LiveRun bl a c):b=c:=by
  induction h1 with
  | stop h =>
    cases h2 with
    | stop _=>rfl
    | go h' _=>rw [h] at h';cases h'
  | go h _ ih =>
    cases h2 with
    | stop h'=>rw [h] at h';cases h'
    | go _ hr=>exact ih hr
def live0 (bl:List BlockS) (regs:Int):LiveS:=⟨List.replicate bl.length (emptyS regs),List.replicate bl.length (emptyS regs),true⟩
def wantedS (x:InsS):Bool:=if trapsS x.op=true then decide (0≤x.b.reg) || decide (x.b.num=0) || decide (x.b.num=-1) else if x.op=26 then false else !pureS x.op
def onceGo:List InsS→SetS→List InsS→List InsS
  | [],_,acc=>acc
  | x::r,s,acc=>if !wantedS x && (decide (x.dst < 0) || !hasS s x.dst) then onceGo r s acc else if x.op=2∧x.a.reg=x.dst then onceGo r s acc else onceGo r (backS s x) (x::acc)
def onceB (b:BlockS) (o:SetS):BlockS:={ b with ins:=onceGo b.ins.reverse (useS o (treadsS b.term)) [] }
def onceL:List BlockS→List SetS→List BlockS
  | b::bl,o::os=>onceB b o::onceL bl os
  | bl,[]=>bl
  | [],_=>[]
def sizeS (bl:List BlockS):Nat:=(bl.map fun b=>b.ins.length).sum
inductive OnceS (regs:Int) (bl:List BlockS):List BlockS→Prop
  | mk {st:LiveS} (h:LiveRun bl (live0 bl regs) st):OnceS regs bl (onceL bl st.outs)
inductive CodeS (regs:Int):List BlockS→List BlockS→Prop
  | stop {bl bl':List BlockS} (h:OnceS regs bl bl') (he:sizeS bl'=sizeS bl):CodeS regs bl bl'
  | go {bl bl1 bl':List BlockS} (h:OnceS regs bl bl1) (hn:sizeS bl1≠sizeS bl) (hr:CodeS regs bl1 bl'):CodeS regs bl bl'
def throughGo (bl:List BlockS):Nat→Int→Int
  | 0,k=>k
  | n+1,k=>match bl[k.toNat]? with
    | some b=>if b.ins.length > 0∨b.term.kind≠1 then k else throughGo bl n b.term.goto
    | none=>k
def throughS (bl:List BlockS) (k:Int):Int:=throughGo bl bl.length k
def zeroA:ArgS:=⟨0,0⟩
def jumpT (k:Int):TermS:=⟨1,0,zeroA,zeroA,k,0⟩
def retT:TermS:=⟨3,0,⟨-1,0⟩,zeroA,0,0⟩
def turnT (bl:List BlockS) (t:TermS):TermS :=
  if t.kind=1 then { t with goto:=throughS bl t.goto }
  else if t.kind=2 then
    if throughS bl t.goto=throughS bl t.els then jumpT (throughS bl t.goto) else { t with goto:=throughS bl t.goto,els:=throughS bl t.els }
  else t
def turnAt (bl:List BlockS) (i:Nat):List BlockS:=match bl[i]? with
  | some b=>bl.set i { b with term:=turnT bl b.term }
  | none=>bl
def turnUp (n:Nat):Nat→List BlockS→List BlockS
  | 0,bl=>bl
  | d+1,bl=>turnUp n d (turnAt bl (n - (d+1)))
def turnS (bl:List BlockS):List BlockS:=turnUp bl.length bl.length bl
def countAt (r:SetS) (k:Int):Nat→List BlockS→Nat
  | _,[]=>0
  | i,b::bl=>(if hasS r i=true then (nextS b.term).count k else 0)+countAt r k (i+1) bl
def countS (bl:List BlockS) (r:SetS) (k:Int):Nat:=countAt r k 0 bl
def meltAt (bl:List BlockS) (i:Nat) (k:Int):List BlockS:=match bl[i]?,bl[k.toNat]? with
  | some b,some o=>(bl.set i ⟨b.ins++o.ins,o.term⟩).set k.toNat ⟨[],retT⟩
  | _,_=>bl
def meltGo (i:Nat):Nat→List BlockS→SetS→List BlockS
  | 0,bl,_=>bl
  | m+1,bl,r=>match bl[i]? with
    | some b=>if b.term.kind≠1∨b.term.goto=i∨b.term.goto=0∨countS bl r b.term.goto≠1 then bl else meltGo i m (meltAt bl i b.term.goto) (outS r b.term.goto)
    | none=>bl
def jumpsS (bl:List BlockS):Nat:=bl.countP fun b=>decide (b.term.kind=1)
def meltI (bl:List BlockS) (i:Nat):List BlockS:=if hasS (reachedS bl) i=true then meltGo i (jumpsS bl+1) bl (reachedS bl) else bl
def meltUp (n:Nat):Nat→List BlockS→List BlockS
  | 0,bl=>bl
  | d+1,bl=>meltUp n d (meltI bl (n - (d+1)))
def meltS (bl:List BlockS):List BlockS:=meltUp bl.length bl.length bl
def keptL (r:SetS):Nat→List BlockS→List BlockS
  | _,[]=>[]
  | i,b::bl=>if hasS r i=true then b::keptL r (i+1) bl else keptL r (i+1) bl
def placesS (r:SetS):Nat→Nat→Nat→List Int
  | 0,_,_=>[]
  | m+1,i,n=>(n:Int)::placesS r m (i+1) (if hasS r i=true then n+1 else n)
def placeT (pl:List Int) (t:TermS):TermS :=
  if t.kind=1 then { t with goto:=pl[t.goto.toNat]?.getD 0 } else if t.kind=2 then { t with goto:=pl[t.goto.toNat]?.getD 0,els:=pl[t.els.toNat]?.getD 0 } else t
def dropS (bl:List BlockS):List BlockS :=
  (keptL (reachedS bl) 0 bl).map fun b=>{ b with term:=placeT (placesS (reachedS bl) bl.length 0 0) b.term }
def waysS (bl:List BlockS):List BlockS:=dropS (meltS (turnS bl))
end Go.Proofs.YtjhloakacicdiaaDoor
