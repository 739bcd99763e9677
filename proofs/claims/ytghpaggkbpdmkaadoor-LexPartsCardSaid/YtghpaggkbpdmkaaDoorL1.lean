/-
  What the parts of the lexer return.
-/
import Derived.KernelRfl
import Derived.Lib.IndexBytes
import Derived.Lib.IndexLaws
import Derived.Lib.IndexMore
import Derived.Lib.Strings
import Derived.Shelf.Small.Strs
import Derived.Shelf.Strings.Search1
import Derived.Shelf.Strings.Search2
import Derived.Shelf.Strings.Search3
import Derived.Test.YtghpaggkbpdmkaaDoorProg
import Derived.Test.YtghpaggkbpdmkaaDoorRows
import Derived.Test.YtghpaggkbpdmkaaDoorS1
set_option linter.unusedVariables false
set_option linter.unusedSimpArgs false
namespace Go.Proofs.YtghpaggkbpdmkaaDoor
open Go.AH
theorem mixed : Tryd.prog.follows .mixedOrders = true := by kernel_rfl
instance : TyU Tryd.prog 2 (.int .i64) := ⟨by kernel_rfl⟩
instance : TyOne Tryd.prog 2 := ⟨by kernel_rfl⟩
instance : TySz Tryd.prog 2 1 := ⟨by kernel_rfl⟩
instance : TyBy Tryd.prog 2 8 := ⟨by kernel_rfl⟩
instance : TyZ Tryd.prog 2 (.int .i64 0) := ⟨by kernel_rfl, by kernel_rfl⟩
instance : TyU Tryd.prog 3 (.int .i64) := ⟨by kernel_rfl⟩
instance : TyOne Tryd.prog 3 := ⟨by kernel_rfl⟩
instance : TySz Tryd.prog 3 1 := ⟨by kernel_rfl⟩
instance : TyBy Tryd.prog 3 8 := ⟨by kernel_rfl⟩
instance : TyZ Tryd.prog 3 (.int .i64 0) := ⟨by kernel_rfl, by kernel_rfl⟩
instance : TyU Tryd.prog 4 .bool := ⟨by kernel_rfl⟩
instance : TyOne Tryd.prog 4 := ⟨by kernel_rfl⟩
instance : TySz Tryd.prog 4 1 := ⟨by kernel_rfl⟩
instance : TyBy Tryd.prog 4 1 := ⟨by kernel_rfl⟩
instance : TyZ Tryd.prog 4 (.bool false) := ⟨by kernel_rfl, by kernel_rfl⟩
instance : TyU Tryd.prog 5 (.int .u8) := ⟨by kernel_rfl⟩
instance : TyOne Tryd.prog 5 := ⟨by kernel_rfl⟩
instance : TySz Tryd.prog 5 1 := ⟨by kernel_rfl⟩
instance : TyBy Tryd.prog 5 1 := ⟨by kernel_rfl⟩
instance : TyZ Tryd.prog 5 (.int .u8 0) := ⟨by kernel_rfl, by kernel_rfl⟩
instance : TyU Tryd.prog 6 (.int .u8) := ⟨by kernel_rfl⟩
instance : TyOne Tryd.prog 6 := ⟨by kernel_rfl⟩
instance : TySz Tryd.prog 6 1 := ⟨by kernel_rfl⟩
instance : TyBy Tryd.prog 6 1 := ⟨by kernel_rfl⟩
instance : TyZ Tryd.prog 6 (.int .u8 0) := ⟨by kernel_rfl, by kernel_rfl⟩
instance : TyAgg Tryd.prog 7 4 := ⟨⟨by kernel_rfl, by kernel_rfl⟩⟩
instance : TySz Tryd.prog 7 4 := ⟨by kernel_rfl⟩
instance : TyBy Tryd.prog 7 24 := ⟨by kernel_rfl⟩
instance : TyZ Tryd.prog 7 (.agg ⟨[(.int .i64 0), (.int .i64 0), (.bool false), (.int .u8 0)]⟩) := ⟨by kernel_rfl, by kernel_rfl⟩
instance : TyS Tryd.prog 7 [(.int .i64 0), (.int .i64 0), (.bool false), (.int .u8 0)] [(0, 1), (1, 1), (2, 1), (3, 1)] := ⟨by kernel_rfl, by kernel_rfl, by kernel_rfl⟩
instance : FOff Tryd.prog 7 0 0 := ⟨by kernel_rfl⟩
instance : FOff Tryd.prog 7 1 1 := ⟨by kernel_rfl⟩
instance : FOff Tryd.prog 7 2 2 := ⟨by kernel_rfl⟩
instance : FOff Tryd.prog 7 3 3 := ⟨by kernel_rfl⟩
instance : TyAgg Tryd.prog 8 4 := ⟨⟨by kernel_rfl, by kernel_rfl⟩⟩
instance : TySz Tryd.prog 8 4 := ⟨by kernel_rfl⟩
instance : TyBy Tryd.prog 8 24 := ⟨by kernel_rfl⟩
instance : TyZ Tryd.prog 8 (.agg ⟨[(.int .i64 0), (.int .i64 0), (.bool false), (.int .u8 0)]⟩) := ⟨by kernel_rfl, by kernel_rfl⟩
instance : TyS Tryd.prog 8 [(.int .i64 0), (.int .i64 0), (.bool false), (.int .u8 0)] [(0, 1), (1, 1), (2, 1), (3, 1)] := ⟨by kernel_rfl, by kernel_rfl, by kernel_rfl⟩
instance : FOff Tryd.prog 8 0 0 := ⟨by kernel_rfl⟩
instance : FOff Tryd.prog 8 1 1 := ⟨by kernel_rfl⟩
instance : FOff Tryd.prog 8 2 2 := ⟨by kernel_rfl⟩
instance : FOff Tryd.prog 8 3 3 := ⟨by kernel_rfl⟩
instance : TyU Tryd.prog 9 .string := ⟨by kernel_rfl⟩
instance : TyOne Tryd.prog 9 := ⟨by kernel_rfl⟩
instance : TySz Tryd.prog 9 1 := ⟨by kernel_rfl⟩
instance : TyBy Tryd.prog 9 16 := ⟨by kernel_rfl⟩
instance : TyZ Tryd.prog 9 (.string ⟨#[]⟩) := ⟨by kernel_rfl, by kernel_rfl⟩
instance : TyU Tryd.prog 10 .string := ⟨by kernel_rfl⟩
instance : TyOne Tryd.prog 10 := ⟨by kernel_rfl⟩
instance : TySz Tryd.prog 10 1 := ⟨by kernel_rfl⟩
instance : TyBy Tryd.prog 10 16 := ⟨by kernel_rfl⟩
instance : TyZ Tryd.prog 10 (.string ⟨#[]⟩) := ⟨by kernel_rfl, by kernel_rfl⟩
instance : TyU Tryd.prog 11 .string := ⟨by kernel_rfl⟩
instance : TyOne Tryd.prog 11 := ⟨by kernel_rfl⟩
instance : TySz Tryd.prog 11 1 := ⟨by kernel_rfl⟩
instance : TyBy Tryd.prog 11 16 := ⟨by kernel_rfl⟩
instance : TyZ Tryd.prog 11 (.string ⟨#[]⟩) := ⟨by kernel_rfl, by kernel_rfl⟩
instance : TyU Tryd.prog 12 (.int .u64) := ⟨by kernel_rfl⟩
instance : TyOne Tryd.prog 12 := ⟨by kernel_rfl⟩
instance : TySz Tryd.prog 12 1 := ⟨by kernel_rfl⟩
instance : TyBy Tryd.prog 12 8 := ⟨by kernel_rfl⟩
instance : TyZ Tryd.prog 12 (.int .u64 0) := ⟨by kernel_rfl, by kernel_rfl⟩
instance : TyAgg Tryd.prog 13 2 := ⟨⟨by kernel_rfl, by kernel_rfl⟩⟩
instance : TySz Tryd.prog 13 2 := ⟨by kernel_rfl⟩
instance : TyBy Tryd.prog 13 24 := ⟨by kernel_rfl⟩
instance : TyZ Tryd.prog 13 (.agg ⟨[(.string ⟨#[]⟩), (.int .u64 0)]⟩) := ⟨by kernel_rfl, by kernel_rfl⟩
instance : TyS Tryd.prog 13 [(.string ⟨#[]⟩), (.int .u64 0)] [(0, 1), (1, 1)] := ⟨by kernel_rfl, by kernel_rfl, by kernel_rfl⟩
instance : FOff Tryd.prog 13 0 0 := ⟨by kernel_rfl⟩
instance : FOff Tryd.prog 13 1 1 := ⟨by kernel_rfl⟩
instance : TyAgg Tryd.prog 14 2 := ⟨⟨by kernel_rfl, by kernel_rfl⟩⟩
instance : TySz Tryd.prog 14 2 := ⟨by kernel_rfl⟩
instance : TyBy Tryd.prog 14 24 := ⟨by kernel_rfl⟩
instance : TyZ Tryd.prog 14 (.agg ⟨[(.string ⟨#[]⟩), (.int .u64 0)]⟩) := ⟨by kernel_rfl, by kernel_rfl⟩
instance : TyS Tryd.prog 14 [(.string ⟨#[]⟩), (.int .u64 0)] [(0, 1), (1, 1)] := ⟨by kernel_rfl, by kernel_rfl, by kernel_rfl⟩
instance : FOff Tryd.prog 14 0 0 := ⟨by kernel_rfl⟩
instance : FOff Tryd.prog 14 1 1 := ⟨by kernel_rfl⟩
instance : TyU Tryd.prog 15 (.pointer 87) := ⟨by kernel_rfl⟩
instance : TyOne Tryd.prog 15 := ⟨by kernel_rfl⟩
instance : TySz Tryd.prog 15 1 := ⟨by kernel_rfl⟩
instance : TyBy Tryd.prog 15 8 := ⟨by kernel_rfl⟩
instance : TyZ Tryd.prog 15 (.pointer none) := ⟨by kernel_rfl, by kernel_rfl⟩
instance : TyU Tryd.prog 16 (.pointer 90) := ⟨by kernel_rfl⟩
instance : TyOne Tryd.prog 16 := ⟨by kernel_rfl⟩
instance : TySz Tryd.prog 16 1 := ⟨by kernel_rfl⟩
instance : TyBy Tryd.prog 16 8 := ⟨by kernel_rfl⟩
instance : TyZ Tryd.prog 16 (.pointer none) := ⟨by kernel_rfl, by kernel_rfl⟩
instance : TyU Tryd.prog 17 (.pointer 99) := ⟨by kernel_rfl⟩
instance : TyOne Tryd.prog 17 := ⟨by kernel_rfl⟩
instance : TySz Tryd.prog 17 1 := ⟨by kernel_rfl⟩
instance : TyBy Tryd.prog 17 8 := ⟨by kernel_rfl⟩
instance : TyZ Tryd.prog 17 (.pointer none) := ⟨by kernel_rfl, by kernel_rfl⟩
instance : TyAgg Tryd.prog 18 1 := ⟨⟨by kernel_rfl, by kernel_rfl⟩⟩
instance : TySz Tryd.prog 18 1 := ⟨by kernel_rfl⟩
instance : TyBy Tryd.prog 18 8 := ⟨by kernel_rfl⟩
instance : TyZ Tryd.prog 18 (.agg ⟨[(.pointer none)]⟩) := ⟨by kernel_rfl, by kernel_rfl⟩
instance : TyS Tryd.prog 18 [(.pointer none)] [(0, 1)] := ⟨by kernel_rfl, by kernel_rfl, by kernel_rfl⟩
instance : FOff Tryd.prog 18 0 0 := ⟨by kernel_rfl⟩
instance : TyAgg Tryd.prog 19 1 := ⟨⟨by kernel_rfl, by kernel_rfl⟩⟩
instance : TySz Tryd.prog 19 1 := ⟨by kernel_rfl⟩
instance : TyBy Tryd.prog 19 8 := ⟨by kernel_rfl⟩
instance : TyZ Tryd.prog 19 (.agg ⟨[(.pointer none)]⟩) := ⟨by kernel_rfl, by kernel_rfl⟩
instance : TyS Tryd.prog 19 [(.pointer none)] [(0, 1)] := ⟨by kernel_rfl, by kernel_rfl, by kernel_rfl⟩
instance : FOff Tryd.prog 19 0 0 := ⟨by kernel_rfl⟩
instance : TyU Tryd.prog 21 (.int .i32) := ⟨by kernel_rfl⟩
instance : TyOne Tryd.prog 21 := ⟨by kernel_rfl⟩
instance : TySz Tryd.prog 21 1 := ⟨by kernel_rfl⟩
instance : TyBy Tryd.prog 21 4 := ⟨by kernel_rfl⟩
instance : TyZ Tryd.prog 21 (.int .i32 0) := ⟨by kernel_rfl, by kernel_rfl⟩
instance : TyU Tryd.prog 23 (.slice 36) := ⟨by kernel_rfl⟩
instance : TyOne Tryd.prog 23 := ⟨by kernel_rfl⟩
instance : TySz Tryd.prog 23 1 := ⟨by kernel_rfl⟩
instance : TyBy Tryd.prog 23 24 := ⟨by kernel_rfl⟩
instance : TyZ Tryd.prog 23 (.slice none 0 0) := ⟨by kernel_rfl, by kernel_rfl⟩
instance : TyU Tryd.prog 24 (.int .i64) := ⟨by kernel_rfl⟩
instance : TyOne Tryd.prog 24 := ⟨by kernel_rfl⟩
instance : TySz Tryd.prog 24 1 := ⟨by kernel_rfl⟩
instance : TyBy Tryd.prog 24 8 := ⟨by kernel_rfl⟩
instance : TyZ Tryd.prog 24 (.int .i64 0) := ⟨by kernel_rfl, by kernel_rfl⟩
instance : TyAgg Tryd.prog 25 2 := ⟨⟨by kernel_rfl, by kernel_rfl⟩⟩
instance : TySz Tryd.prog 25 2 := ⟨by kernel_rfl⟩
instance : TyBy Tryd.prog 25 16 := ⟨by kernel_rfl⟩
instance : TyZ Tryd.prog 25 (.agg ⟨[(.int .i64 0), (.int .i64 0)]⟩) := ⟨by kernel_rfl, by kernel_rfl⟩
instance : TyS Tryd.prog 25 [(.int .i64 0), (.int .i64 0)] [(0, 1), (1, 1)] := ⟨by kernel_rfl, by kernel_rfl, by kernel_rfl⟩
instance : FOff Tryd.prog 25 0 0 := ⟨by kernel_rfl⟩
instance : FOff Tryd.prog 25 1 1 := ⟨by kernel_rfl⟩
instance : TyAgg Tryd.prog 26 2 := ⟨⟨by kernel_rfl, by kernel_rfl⟩⟩
instance : TySz Tryd.prog 26 2 := ⟨by kernel_rfl⟩
instance : TyBy Tryd.prog 26 16 := ⟨by kernel_rfl⟩
instance : TyZ Tryd.prog 26 (.agg ⟨[(.int .i64 0), (.int .i64 0)]⟩) := ⟨by kernel_rfl, by kernel_rfl⟩
instance : TyS Tryd.prog 26 [(.int .i64 0), (.int .i64 0)] [(0, 1), (1, 1)] := ⟨by kernel_rfl, by kernel_rfl, by kernel_rfl⟩
instance : FOff Tryd.prog 26 0 0 := ⟨by kernel_rfl⟩
instance : FOff Tryd.prog 26 1 1 := ⟨by kernel_rfl⟩
instance : TyU Tryd.prog 29 (.slice 50) := ⟨by kernel_rfl⟩
instance : TyOne Tryd.prog 29 := ⟨by kernel_rfl⟩
instance : TySz Tryd.prog 29 1 := ⟨by kernel_rfl⟩
instance : TyBy Tryd.prog 29 24 := ⟨by kernel_rfl⟩
instance : TyZ Tryd.prog 29 (.slice none 0 0) := ⟨by kernel_rfl, by kernel_rfl⟩
instance : TyU Tryd.prog 34 (.int .u64) := ⟨by kernel_rfl⟩
instance : TyOne Tryd.prog 34 := ⟨by kernel_rfl⟩
instance : TySz Tryd.prog 34 1 := ⟨by kernel_rfl⟩
instance : TyBy Tryd.prog 34 8 := ⟨by kernel_rfl⟩
instance : TyZ Tryd.prog 34 (.int .u64 0) := ⟨by kernel_rfl, by kernel_rfl⟩
instance : TyAgg Tryd.prog 35 6 := ⟨⟨by kernel_rfl, by kernel_rfl⟩⟩
instance : TySz Tryd.prog 35 6 := ⟨by kernel_rfl⟩
instance : TyBy Tryd.prog 35 48 := ⟨by kernel_rfl⟩
instance : TyZ Tryd.prog 35 (.agg ⟨[(.int .i64 0), (.string ⟨#[]⟩), (.int .i64 0), (.int .u64 0), (.bool false), (.bool false)]⟩) := ⟨by kernel_rfl, by kernel_rfl⟩
instance : TyS Tryd.prog 35 [(.int .i64 0), (.string ⟨#[]⟩), (.int .i64 0), (.int .u64 0), (.bool false), (.bool false)] [(0, 1), (1, 1), (2, 1), (3, 1), (4, 1), (5, 1)] := ⟨by kernel_rfl, by kernel_rfl, by kernel_rfl⟩
instance : FOff Tryd.prog 35 0 0 := ⟨by kernel_rfl⟩
instance : FOff Tryd.prog 35 1 1 := ⟨by kernel_rfl⟩
instance : FOff Tryd.prog 35 2 2 := ⟨by kernel_rfl⟩
instance : FOff Tryd.prog 35 3 3 := ⟨by kernel_rfl⟩
instance : FOff Tryd.prog 35 4 4 := ⟨by kernel_rfl⟩
instance : FOff Tryd.prog 35 5 5 := ⟨by kernel_rfl⟩
instance : TyAgg Tryd.prog 36 6 := ⟨⟨by kernel_rfl, by kernel_rfl⟩⟩
instance : TySz Tryd.prog 36 6 := ⟨by kernel_rfl⟩
instance : TyBy Tryd.prog 36 48 := ⟨by kernel_rfl⟩
instance : TyZ Tryd.prog 36 (.agg ⟨[(.int .i64 0), (.string ⟨#[]⟩), (.int .i64 0), (.int .u64 0), (.bool false), (.bool false)]⟩) := ⟨by kernel_rfl, by kernel_rfl⟩
instance : TyS Tryd.prog 36 [(.int .i64 0), (.string ⟨#[]⟩), (.int .i64 0), (.int .u64 0), (.bool false), (.bool false)] [(0, 1), (1, 1), (2, 1), (3, 1), (4, 1), (5, 1)] := ⟨by kernel_rfl, by kernel_rfl, by kernel_rfl⟩
instance : FOff Tryd.prog 36 0 0 := ⟨by kernel_rfl⟩
instance : FOff Tryd.prog 36 1 1 := ⟨by kernel_rfl⟩
instance : FOff Tryd.prog 36 2 2 := ⟨by kernel_rfl⟩
instance : FOff Tryd.prog 36 3 3 := ⟨by kernel_rfl⟩
instance : FOff Tryd.prog 36 4 4 := ⟨by kernel_rfl⟩
instance : FOff Tryd.prog 36 5 5 := ⟨by kernel_rfl⟩
instance : TyU Tryd.prog 37 (.slice 5) := ⟨by kernel_rfl⟩
instance : TyOne Tryd.prog 37 := ⟨by kernel_rfl⟩
instance : TySz Tryd.prog 37 1 := ⟨by kernel_rfl⟩
instance : TyBy Tryd.prog 37 24 := ⟨by kernel_rfl⟩
instance : TyZ Tryd.prog 37 (.slice none 0 0) := ⟨by kernel_rfl, by kernel_rfl⟩
instance : TyU Tryd.prog 38 (.slice 9) := ⟨by kernel_rfl⟩
instance : TyOne Tryd.prog 38 := ⟨by kernel_rfl⟩
instance : TySz Tryd.prog 38 1 := ⟨by kernel_rfl⟩
instance : TyBy Tryd.prog 38 24 := ⟨by kernel_rfl⟩
instance : TyZ Tryd.prog 38 (.slice none 0 0) := ⟨by kernel_rfl, by kernel_rfl⟩
instance : TyU Tryd.prog 41 (.int .u64) := ⟨by kernel_rfl⟩
instance : TyOne Tryd.prog 41 := ⟨by kernel_rfl⟩
instance : TySz Tryd.prog 41 1 := ⟨by kernel_rfl⟩
instance : TyBy Tryd.prog 41 8 := ⟨by kernel_rfl⟩
instance : TyZ Tryd.prog 41 (.int .u64 0) := ⟨by kernel_rfl, by kernel_rfl⟩
instance : TyAgg Tryd.prog 49 6 := ⟨⟨by kernel_rfl, by kernel_rfl⟩⟩
instance : TySz Tryd.prog 49 6 := ⟨by kernel_rfl⟩
instance : TyBy Tryd.prog 49 48 := ⟨by kernel_rfl⟩
instance : TyZ Tryd.prog 49 (.agg ⟨[(.int .i64 0), (.int .i64 0), (.string ⟨#[]⟩), (.int .u64 0), (.bool false), (.bool false)]⟩) := ⟨by kernel_rfl, by kernel_rfl⟩
instance : TyS Tryd.prog 49 [(.int .i64 0), (.int .i64 0), (.string ⟨#[]⟩), (.int .u64 0), (.bool false), (.bool false)] [(0, 1), (1, 1), (2, 1), (3, 1), (4, 1), (5, 1)] := ⟨by kernel_rfl, by kernel_rfl, by kernel_rfl⟩
instance : FOff Tryd.prog 49 0 0 := ⟨by kernel_rfl⟩
instance : FOff Tryd.prog 49 1 1 := ⟨by kernel_rfl⟩
instance : FOff Tryd.prog 49 2 2 := ⟨by kernel_rfl⟩
instance : FOff Tryd.prog 49 3 3 := ⟨by kernel_rfl⟩
instance : FOff Tryd.prog 49 4 4 := ⟨by kernel_rfl⟩
instance : FOff Tryd.prog 49 5 5 := ⟨by kernel_rfl⟩
instance : TyAgg Tryd.prog 50 6 := ⟨⟨by kernel_rfl, by kernel_rfl⟩⟩
instance : TySz Tryd.prog 50 6 := ⟨by kernel_rfl⟩
instance : TyBy Tryd.prog 50 48 := ⟨by kernel_rfl⟩
instance : TyZ Tryd.prog 50 (.agg ⟨[(.int .i64 0), (.int .i64 0), (.string ⟨#[]⟩), (.int .u64 0), (.bool false), (.bool false)]⟩) := ⟨by kernel_rfl, by kernel_rfl⟩
instance : TyS Tryd.prog 50 [(.int .i64 0), (.int .i64 0), (.string ⟨#[]⟩), (.int .u64 0), (.bool false), (.bool false)] [(0, 1), (1, 1), (2, 1), (3, 1), (4, 1), (5, 1)] := ⟨by kernel_rfl, by kernel_rfl, by kernel_rfl⟩
instance : FOff Tryd.prog 50 0 0 := ⟨by kernel_rfl⟩
instance : FOff Tryd.prog 50 1 1 := ⟨by kernel_rfl⟩
instance : FOff Tryd.prog 50 2 2 := ⟨by kernel_rfl⟩
instance : FOff Tryd.prog 50 3 3 := ⟨by kernel_rfl⟩
instance : FOff Tryd.prog 50 4 4 := ⟨by kernel_rfl⟩
instance : FOff Tryd.prog 50 5 5 := ⟨by kernel_rfl⟩
instance : TyU Tryd.prog 59 (.array 256 5) := ⟨by kernel_rfl⟩
instance : TyAgg Tryd.prog 59 256 := ⟨⟨by kernel_rfl, by kernel_rfl⟩⟩
instance : TySz Tryd.prog 59 256 := ⟨by kernel_rfl⟩
instance : TyBy Tryd.prog 59 256 := ⟨by kernel_rfl⟩
instance : TyU Tryd.prog 64 (.slice 66) := ⟨by kernel_rfl⟩
instance : TyOne Tryd.prog 64 := ⟨by kernel_rfl⟩
instance : TySz Tryd.prog 64 1 := ⟨by kernel_rfl⟩
instance : TyBy Tryd.prog 64 24 := ⟨by kernel_rfl⟩
instance : TyZ Tryd.prog 64 (.slice none 0 0) := ⟨by kernel_rfl, by kernel_rfl⟩
instance : TyAgg Tryd.prog 65 2 := ⟨⟨by kernel_rfl, by kernel_rfl⟩⟩
instance : TySz Tryd.prog 65 2 := ⟨by kernel_rfl⟩
instance : TyBy Tryd.prog 65 16 := ⟨by kernel_rfl⟩
instance : TyZ Tryd.prog 65 (.agg ⟨[(.int .i64 0), (.int .i64 0)]⟩) := ⟨by kernel_rfl, by kernel_rfl⟩
instance : TyS Tryd.prog 65 [(.int .i64 0), (.int .i64 0)] [(0, 1), (1, 1)] := ⟨by kernel_rfl, by kernel_rfl, by kernel_rfl⟩
instance : FOff Tryd.prog 65 0 0 := ⟨by kernel_rfl⟩
instance : FOff Tryd.prog 65 1 1 := ⟨by kernel_rfl⟩
instance : TyAgg Tryd.prog 66 2 := ⟨⟨by kernel_rfl, by kernel_rfl⟩⟩
instance : TySz Tryd.prog 66 2 := ⟨by kernel_rfl⟩
instance : TyBy Tryd.prog 66 16 := ⟨by kernel_rfl⟩
instance : TyZ Tryd.prog 66 (.agg ⟨[(.int .i64 0), (.int .i64 0)]⟩) := ⟨by kernel_rfl, by kernel_rfl⟩
instance : TyS Tryd.prog 66 [(.int .i64 0), (.int .i64 0)] [(0, 1), (1, 1)] := ⟨by kernel_rfl, by kernel_rfl, by kernel_rfl⟩
instance : FOff Tryd.prog 66 0 0 := ⟨by kernel_rfl⟩
instance : FOff Tryd.prog 66 1 1 := ⟨by kernel_rfl⟩
instance : TyU Tryd.prog 67 (.int .u32) := ⟨by kernel_rfl⟩
instance : TyOne Tryd.prog 67 := ⟨by kernel_rfl⟩
instance : TySz Tryd.prog 67 1 := ⟨by kernel_rfl⟩
instance : TyBy Tryd.prog 67 4 := ⟨by kernel_rfl⟩
instance : TyZ Tryd.prog 67 (.int .u32 0) := ⟨by kernel_rfl, by kernel_rfl⟩
instance : TyU Tryd.prog 69 (.pointer 75) := ⟨by kernel_rfl⟩
instance : TyOne Tryd.prog 69 := ⟨by kernel_rfl⟩
instance : TySz Tryd.prog 69 1 := ⟨by kernel_rfl⟩
instance : TyBy Tryd.prog 69 8 := ⟨by kernel_rfl⟩
instance : TyZ Tryd.prog 69 (.pointer none) := ⟨by kernel_rfl, by kernel_rfl⟩
instance : TyU Tryd.prog 72 (.slice 78) := ⟨by kernel_rfl⟩
instance : TyOne Tryd.prog 72 := ⟨by kernel_rfl⟩
instance : TySz Tryd.prog 72 1 := ⟨by kernel_rfl⟩
instance : TyBy Tryd.prog 72 24 := ⟨by kernel_rfl⟩
instance : TyZ Tryd.prog 72 (.slice none 0 0) := ⟨by kernel_rfl, by kernel_rfl⟩
instance : TyU Tryd.prog 73 (.slice 81) := ⟨by kernel_rfl⟩
instance : TyOne Tryd.prog 73 := ⟨by kernel_rfl⟩
instance : TySz Tryd.prog 73 1 := ⟨by kernel_rfl⟩
instance : TyBy Tryd.prog 73 24 := ⟨by kernel_rfl⟩
instance : TyZ Tryd.prog 73 (.slice none 0 0) := ⟨by kernel_rfl, by kernel_rfl⟩
instance : TyAgg Tryd.prog 74 3 := ⟨⟨by kernel_rfl, by kernel_rfl⟩⟩
instance : TySz Tryd.prog 74 3 := ⟨by kernel_rfl⟩
instance : TyBy Tryd.prog 74 56 := ⟨by kernel_rfl⟩
instance : TyZ Tryd.prog 74 (.agg ⟨[(.slice none 0 0), (.slice none 0 0), (.int .i64 0)]⟩) := ⟨by kernel_rfl, by kernel_rfl⟩
instance : TyS Tryd.prog 74 [(.slice none 0 0), (.slice none 0 0), (.int .i64 0)] [(0, 1), (1, 1), (2, 1)] := ⟨by kernel_rfl, by kernel_rfl, by kernel_rfl⟩
instance : FOff Tryd.prog 74 0 0 := ⟨by kernel_rfl⟩
instance : FOff Tryd.prog 74 1 1 := ⟨by kernel_rfl⟩
instance : FOff Tryd.prog 74 2 2 := ⟨by kernel_rfl⟩
instance : TyAgg Tryd.prog 75 3 := ⟨⟨by kernel_rfl, by kernel_rfl⟩⟩
instance : TySz Tryd.prog 75 3 := ⟨by kernel_rfl⟩
instance : TyBy Tryd.prog 75 56 := ⟨by kernel_rfl⟩
instance : TyZ Tryd.prog 75 (.agg ⟨[(.slice none 0 0), (.slice none 0 0), (.int .i64 0)]⟩) := ⟨by kernel_rfl, by kernel_rfl⟩
instance : TyS Tryd.prog 75 [(.slice none 0 0), (.slice none 0 0), (.int .i64 0)] [(0, 1), (1, 1), (2, 1)] := ⟨by kernel_rfl, by kernel_rfl, by kernel_rfl⟩
instance : FOff Tryd.prog 75 0 0 := ⟨by kernel_rfl⟩
instance : FOff Tryd.prog 75 1 1 := ⟨by kernel_rfl⟩
instance : FOff Tryd.prog 75 2 2 := ⟨by kernel_rfl⟩
instance : TyU Tryd.prog 76 (.int .u16) := ⟨by kernel_rfl⟩
instance : TyOne Tryd.prog 76 := ⟨by kernel_rfl⟩
instance : TySz Tryd.prog 76 1 := ⟨by kernel_rfl⟩
instance : TyBy Tryd.prog 76 2 := ⟨by kernel_rfl⟩
instance : TyZ Tryd.prog 76 (.int .u16 0) := ⟨by kernel_rfl, by kernel_rfl⟩
instance : TyAgg Tryd.prog 77 3 := ⟨⟨by kernel_rfl, by kernel_rfl⟩⟩
instance : TySz Tryd.prog 77 3 := ⟨by kernel_rfl⟩
instance : TyBy Tryd.prog 77 6 := ⟨by kernel_rfl⟩
instance : TyZ Tryd.prog 77 (.agg ⟨[(.int .u16 0), (.int .u16 0), (.int .u16 0)]⟩) := ⟨by kernel_rfl, by kernel_rfl⟩
instance : TyS Tryd.prog 77 [(.int .u16 0), (.int .u16 0), (.int .u16 0)] [(0, 1), (1, 1), (2, 1)] := ⟨by kernel_rfl, by kernel_rfl, by kernel_rfl⟩
instance : FOff Tryd.prog 77 0 0 := ⟨by kernel_rfl⟩
instance : FOff Tryd.prog 77 1 1 := ⟨by kernel_rfl⟩
instance : FOff Tryd.prog 77 2 2 := ⟨by kernel_rfl⟩
instance : TyAgg Tryd.prog 78 3 := ⟨⟨by kernel_rfl, by kernel_rfl⟩⟩
instance : TySz Tryd.prog 78 3 := ⟨by kernel_rfl⟩
instance : TyBy Tryd.prog 78 6 := ⟨by kernel_rfl⟩
instance : TyZ Tryd.prog 78 (.agg ⟨[(.int .u16 0), (.int .u16 0), (.int .u16 0)]⟩) := ⟨by kernel_rfl, by kernel_rfl⟩
instance : TyS Tryd.prog 78 [(.int .u16 0), (.int .u16 0), (.int .u16 0)] [(0, 1), (1, 1), (2, 1)] := ⟨by kernel_rfl, by kernel_rfl, by kernel_rfl⟩
instance : FOff Tryd.prog 78 0 0 := ⟨by kernel_rfl⟩
instance : FOff Tryd.prog 78 1 1 := ⟨by kernel_rfl⟩
instance : FOff Tryd.prog 78 2 2 := ⟨by kernel_rfl⟩
instance : TyAgg Tryd.prog 80 3 := ⟨⟨by kernel_rfl, by kernel_rfl⟩⟩
instance : TySz Tryd.prog 80 3 := ⟨by kernel_rfl⟩
instance : TyBy Tryd.prog 80 12 := ⟨by kernel_rfl⟩
instance : TyZ Tryd.prog 80 (.agg ⟨[(.int .u32 0), (.int .u32 0), (.int .u32 0)]⟩) := ⟨by kernel_rfl, by kernel_rfl⟩
instance : TyS Tryd.prog 80 [(.int .u32 0), (.int .u32 0), (.int .u32 0)] [(0, 1), (1, 1), (2, 1)] := ⟨by kernel_rfl, by kernel_rfl, by kernel_rfl⟩
instance : FOff Tryd.prog 80 0 0 := ⟨by kernel_rfl⟩
instance : FOff Tryd.prog 80 1 1 := ⟨by kernel_rfl⟩
instance : FOff Tryd.prog 80 2 2 := ⟨by kernel_rfl⟩
instance : TyAgg Tryd.prog 81 3 := ⟨⟨by kernel_rfl, by kernel_rfl⟩⟩
instance : TySz Tryd.prog 81 3 := ⟨by kernel_rfl⟩
instance : TyBy Tryd.prog 81 12 := ⟨by kernel_rfl⟩
instance : TyZ Tryd.prog 81 (.agg ⟨[(.int .u32 0), (.int .u32 0), (.int .u32 0)]⟩) := ⟨by kernel_rfl, by kernel_rfl⟩
instance : TyS Tryd.prog 81 [(.int .u32 0), (.int .u32 0), (.int .u32 0)] [(0, 1), (1, 1), (2, 1)] := ⟨by kernel_rfl, by kernel_rfl, by kernel_rfl⟩
instance : FOff Tryd.prog 81 0 0 := ⟨by kernel_rfl⟩
instance : FOff Tryd.prog 81 1 1 := ⟨by kernel_rfl⟩
instance : FOff Tryd.prog 81 2 2 := ⟨by kernel_rfl⟩
instance : TyU Tryd.prog 83 (.pointer 78) := ⟨by kernel_rfl⟩
instance : TyOne Tryd.prog 83 := ⟨by kernel_rfl⟩
instance : TySz Tryd.prog 83 1 := ⟨by kernel_rfl⟩
instance : TyBy Tryd.prog 83 8 := ⟨by kernel_rfl⟩
instance : TyZ Tryd.prog 83 (.pointer none) := ⟨by kernel_rfl, by kernel_rfl⟩
instance : TyU Tryd.prog 84 (.pointer 81) := ⟨by kernel_rfl⟩
instance : TyOne Tryd.prog 84 := ⟨by kernel_rfl⟩
instance : TySz Tryd.prog 84 1 := ⟨by kernel_rfl⟩
instance : TyBy Tryd.prog 84 8 := ⟨by kernel_rfl⟩
instance : TyZ Tryd.prog 84 (.pointer none) := ⟨by kernel_rfl, by kernel_rfl⟩
instance : TyAgg Tryd.prog 86 4 := ⟨⟨by kernel_rfl, by kernel_rfl⟩⟩
instance : TySz Tryd.prog 86 4 := ⟨by kernel_rfl⟩
instance : TyBy Tryd.prog 86 40 := ⟨by kernel_rfl⟩
instance : TyZ Tryd.prog 86 (.agg ⟨[(.pointer none), (.pointer none), (.pointer none), (.string ⟨#[]⟩)]⟩) := ⟨by kernel_rfl, by kernel_rfl⟩
instance : TyS Tryd.prog 86 [(.pointer none), (.pointer none), (.pointer none), (.string ⟨#[]⟩)] [(0, 1), (1, 1), (2, 1), (3, 1)] := ⟨by kernel_rfl, by kernel_rfl, by kernel_rfl⟩
instance : FOff Tryd.prog 86 0 0 := ⟨by kernel_rfl⟩
instance : FOff Tryd.prog 86 1 1 := ⟨by kernel_rfl⟩
instance : FOff Tryd.prog 86 2 2 := ⟨by kernel_rfl⟩
instance : FOff Tryd.prog 86 3 3 := ⟨by kernel_rfl⟩
instance : TyAgg Tryd.prog 87 4 := ⟨⟨by kernel_rfl, by kernel_rfl⟩⟩
instance : TySz Tryd.prog 87 4 := ⟨by kernel_rfl⟩
instance : TyBy Tryd.prog 87 40 := ⟨by kernel_rfl⟩
instance : TyZ Tryd.prog 87 (.agg ⟨[(.pointer none), (.pointer none), (.pointer none), (.string ⟨#[]⟩)]⟩) := ⟨by kernel_rfl, by kernel_rfl⟩
instance : TyS Tryd.prog 87 [(.pointer none), (.pointer none), (.pointer none), (.string ⟨#[]⟩)] [(0, 1), (1, 1), (2, 1), (3, 1)] := ⟨by kernel_rfl, by kernel_rfl, by kernel_rfl⟩
instance : FOff Tryd.prog 87 0 0 := ⟨by kernel_rfl⟩
instance : FOff Tryd.prog 87 1 1 := ⟨by kernel_rfl⟩
instance : FOff Tryd.prog 87 2 2 := ⟨by kernel_rfl⟩
instance : FOff Tryd.prog 87 3 3 := ⟨by kernel_rfl⟩
instance : TyU Tryd.prog 88 (.array 0 16) := ⟨by kernel_rfl⟩
instance : TyAgg Tryd.prog 88 0 := ⟨⟨by kernel_rfl, by kernel_rfl⟩⟩
instance : TySz Tryd.prog 88 0 := ⟨by kernel_rfl⟩
instance : TyBy Tryd.prog 88 0 := ⟨by kernel_rfl⟩
instance : TyZ Tryd.prog 88 (.agg ⟨[]⟩) := ⟨by kernel_rfl, by kernel_rfl⟩
instance : TyAgg Tryd.prog 89 0 := ⟨⟨by kernel_rfl, by kernel_rfl⟩⟩
instance : TySz Tryd.prog 89 0 := ⟨by kernel_rfl⟩
instance : TyBy Tryd.prog 89 0 := ⟨by kernel_rfl⟩
instance : TyZ Tryd.prog 89 (.agg ⟨[]⟩) := ⟨by kernel_rfl, by kernel_rfl⟩
instance : TyAgg Tryd.prog 90 0 := ⟨⟨by kernel_rfl, by kernel_rfl⟩⟩
instance : TySz Tryd.prog 90 0 := ⟨by kernel_rfl⟩
instance : TyBy Tryd.prog 90 0 := ⟨by kernel_rfl⟩
instance : TyZ Tryd.prog 90 (.agg ⟨[]⟩) := ⟨by kernel_rfl, by kernel_rfl⟩
instance : TyU Tryd.prog 92 (.int .u8) := ⟨by kernel_rfl⟩
instance : TyOne Tryd.prog 92 := ⟨by kernel_rfl⟩
instance : TySz Tryd.prog 92 1 := ⟨by kernel_rfl⟩
instance : TyBy Tryd.prog 92 1 := ⟨by kernel_rfl⟩
instance : TyZ Tryd.prog 92 (.int .u8 0) := ⟨by kernel_rfl, by kernel_rfl⟩
instance : TyU Tryd.prog 93 (.int .u8) := ⟨by kernel_rfl⟩
instance : TyOne Tryd.prog 93 := ⟨by kernel_rfl⟩
instance : TySz Tryd.prog 93 1 := ⟨by kernel_rfl⟩
instance : TyBy Tryd.prog 93 1 := ⟨by kernel_rfl⟩
instance : TyZ Tryd.prog 93 (.int .u8 0) := ⟨by kernel_rfl, by kernel_rfl⟩
instance : TyU Tryd.prog 95 (.pointer 5) := ⟨by kernel_rfl⟩
instance : TyOne Tryd.prog 95 := ⟨by kernel_rfl⟩
instance : TySz Tryd.prog 95 1 := ⟨by kernel_rfl⟩
instance : TyBy Tryd.prog 95 8 := ⟨by kernel_rfl⟩
instance : TyZ Tryd.prog 95 (.pointer none) := ⟨by kernel_rfl, by kernel_rfl⟩
instance : TyU Tryd.prog 96 (.int .i32) := ⟨by kernel_rfl⟩
instance : TyOne Tryd.prog 96 := ⟨by kernel_rfl⟩
instance : TySz Tryd.prog 96 1 := ⟨by kernel_rfl⟩
instance : TyBy Tryd.prog 96 4 := ⟨by kernel_rfl⟩
instance : TyZ Tryd.prog 96 (.int .i32 0) := ⟨by kernel_rfl, by kernel_rfl⟩
instance : TyU Tryd.prog 97 (.int .i32) := ⟨by kernel_rfl⟩
instance : TyOne Tryd.prog 97 := ⟨by kernel_rfl⟩
instance : TySz Tryd.prog 97 1 := ⟨by kernel_rfl⟩
instance : TyBy Tryd.prog 97 4 := ⟨by kernel_rfl⟩
instance : TyZ Tryd.prog 97 (.int .i32 0) := ⟨by kernel_rfl, by kernel_rfl⟩
instance : TyAgg Tryd.prog 98 11 := ⟨⟨by kernel_rfl, by kernel_rfl⟩⟩
instance : TySz Tryd.prog 98 11 := ⟨by kernel_rfl⟩
instance : TyBy Tryd.prog 98 48 := ⟨by kernel_rfl⟩
instance : TyZ Tryd.prog 98 (.agg ⟨[(.int .u64 0), (.int .u64 0), (.int .u32 0), (.int .u8 0), (.int .u8 0), (.int .u8 0), (.int .u8 0), .nilFunc, (.pointer none), (.int .i32 0), (.int .i32 0)]⟩) := ⟨by kernel_rfl, by kernel_rfl⟩
instance : FOff Tryd.prog 98 0 0 := ⟨by kernel_rfl⟩
instance : FOff Tryd.prog 98 1 1 := ⟨by kernel_rfl⟩
instance : FOff Tryd.prog 98 2 2 := ⟨by kernel_rfl⟩
instance : FOff Tryd.prog 98 3 3 := ⟨by kernel_rfl⟩
instance : FOff Tryd.prog 98 4 4 := ⟨by kernel_rfl⟩
instance : FOff Tryd.prog 98 5 5 := ⟨by kernel_rfl⟩
instance : FOff Tryd.prog 98 6 6 := ⟨by kernel_rfl⟩
instance : FOff Tryd.prog 98 8 8 := ⟨by kernel_rfl⟩
instance : FOff Tryd.prog 98 9 9 := ⟨by kernel_rfl⟩
instance : FOff Tryd.prog 98 10 10 := ⟨by kernel_rfl⟩
instance : TyAgg Tryd.prog 99 11 := ⟨⟨by kernel_rfl, by kernel_rfl⟩⟩
instance : TySz Tryd.prog 99 11 := ⟨by kernel_rfl⟩
instance : TyBy Tryd.prog 99 48 := ⟨by kernel_rfl⟩
instance : TyZ Tryd.prog 99 (.agg ⟨[(.int .u64 0), (.int .u64 0), (.int .u32 0), (.int .u8 0), (.int .u8 0), (.int .u8 0), (.int .u8 0), .nilFunc, (.pointer none), (.int .i32 0), (.int .i32 0)]⟩) := ⟨by kernel_rfl, by kernel_rfl⟩
instance : FOff Tryd.prog 99 0 0 := ⟨by kernel_rfl⟩
instance : FOff Tryd.prog 99 1 1 := ⟨by kernel_rfl⟩
instance : FOff Tryd.prog 99 2 2 := ⟨by kernel_rfl⟩
instance : FOff Tryd.prog 99 3 3 := ⟨by kernel_rfl⟩
instance : FOff Tryd.prog 99 4 4 := ⟨by kernel_rfl⟩
instance : FOff Tryd.prog 99 5 5 := ⟨by kernel_rfl⟩
instance : FOff Tryd.prog 99 6 6 := ⟨by kernel_rfl⟩
instance : FOff Tryd.prog 99 8 8 := ⟨by kernel_rfl⟩
instance : FOff Tryd.prog 99 9 9 := ⟨by kernel_rfl⟩
instance : FOff Tryd.prog 99 10 10 := ⟨by kernel_rfl⟩
instance : GF Tryd.prog 3 := ⟨by kernel_rfl⟩
instance : GF Tryd.prog 4 := ⟨by kernel_rfl⟩
instance : GF Tryd.prog 5 := ⟨by kernel_rfl⟩
instance : GF Tryd.prog 6 := ⟨by kernel_rfl⟩
instance : GF Tryd.prog 7 := ⟨by kernel_rfl⟩
instance : GF Tryd.prog 8 := ⟨by kernel_rfl⟩
instance : GF Tryd.prog 9 := ⟨by kernel_rfl⟩
instance : GF Tryd.prog 10 := ⟨by kernel_rfl⟩
instance : GF Tryd.prog 11 := ⟨by kernel_rfl⟩
instance : GF Tryd.prog 12 := ⟨by kernel_rfl⟩
instance : GF Tryd.prog 13 := ⟨by kernel_rfl⟩
instance : GF Tryd.prog 14 := ⟨by kernel_rfl⟩
instance : GF Tryd.prog 15 := ⟨by kernel_rfl⟩
instance : GF Tryd.prog 16 := ⟨by kernel_rfl⟩
instance : GF Tryd.prog 17 := ⟨by kernel_rfl⟩
instance : GF Tryd.prog 18 := ⟨by kernel_rfl⟩
instance : GF Tryd.prog 19 := ⟨by kernel_rfl⟩
instance : GF Tryd.prog 20 := ⟨by kernel_rfl⟩
instance : GF Tryd.prog 21 := ⟨by kernel_rfl⟩
instance : GF Tryd.prog 22 := ⟨by kernel_rfl⟩
instance : GF Tryd.prog 23 := ⟨by kernel_rfl⟩
instance : GF Tryd.prog 24 := ⟨by kernel_rfl⟩
instance : GF Tryd.prog 25 := ⟨by kernel_rfl⟩
instance : GF Tryd.prog 26 := ⟨by kernel_rfl⟩
instance : GF Tryd.prog 27 := ⟨by kernel_rfl⟩
instance : GF Tryd.prog 28 := ⟨by kernel_rfl⟩
instance : GF Tryd.prog 29 := ⟨by kernel_rfl⟩
instance : GF Tryd.prog 30 := ⟨by kernel_rfl⟩
instance : GF Tryd.prog 31 := ⟨by kernel_rfl⟩
instance : GF Tryd.prog 32 := ⟨by kernel_rfl⟩
instance : GF Tryd.prog 33 := ⟨by kernel_rfl⟩
instance : GF Tryd.prog 34 := ⟨by kernel_rfl⟩
instance : GF Tryd.prog 35 := ⟨by kernel_rfl⟩
instance : GF Tryd.prog 36 := ⟨by kernel_rfl⟩
instance : GF Tryd.prog 39 := ⟨by kernel_rfl⟩
instance : GF Tryd.prog 40 := ⟨by kernel_rfl⟩
instance : GF Tryd.prog 41 := ⟨by kernel_rfl⟩
instance : GF Tryd.prog 42 := ⟨by kernel_rfl⟩
instance : GF Tryd.prog 43 := ⟨by kernel_rfl⟩
instance : GF Tryd.prog 44 := ⟨by kernel_rfl⟩
end Go.Proofs.YtghpaggkbpdmkaaDoor
namespace Go.Proofs.YtghpaggkbpdmkaaDoor
def letterI (c : Int) : Bool := (decide (97 ≤ c) && decide (c ≤ 122)) || (decide (65 ≤ c) && decide (c ≤ 90)) || c == 95
def digitI (c : Int) : Bool := decide (48 ≤ c) && decide (c ≤ 57)
def wordyI (c : Int) : Bool := letterI c || digitI c
def blankI (c : Int) : Bool := c == 32 || c == 9 || c == 10 || c == 13
def valueI (c : Int) : Int := if digitI c then c - 48 else if decide (97 ≤ c) && decide (c ≤ 102) then c - 87 else if decide (65 ≤ c) && decide (c ≤ 70) then c - 55 else 99
def ic (c : UInt8) : Int := (c.toNat : Int)
def blankF : Nat → List UInt8 → Nat × Bool
  | 0, _ => (0, true)
  | n + 1, l =>
    match l with
    | [] => (0, true)
    | c :: r =>
      if blankI (ic c) then (1 + (blankF n r).1, (blankF n r).2)
      else if Lib.hasPrefix (c :: r) [47, 47] then
        (if Lib.indexByte (c :: r) 10 < 0 then ((c :: r).length, true)
         else ((Lib.indexByte (c :: r) 10).toNat + (blankF n ((c :: r).drop (Lib.indexByte (c :: r) 10).toNat)).1, (blankF n ((c :: r).drop (Lib.indexByte (c :: r) 10).toNat)).2))
      else if Lib.hasPrefix (c :: r) [47, 42] then
        (if Lib.index ((c :: r).drop 2) [42, 47] < 0 then (0, false)
         else ((Lib.index ((c :: r).drop 2) [42, 47]).toNat + 4 + (blankF n ((c :: r).drop ((Lib.index ((c :: r).drop 2) [42, 47]).toNat + 4))).1,
               (blankF n ((c :: r).drop ((Lib.index ((c :: r).drop 2) [42, 47]).toNat + 4))).2))
      else (0, true)
theorem hp2 (c a b : UInt8) (r : List UInt8) : Lib.hasPrefix (c :: r) [a, b] = (a == c && (match r with | [] => false | d :: _ => b == d)) := by
  unfold Lib.hasPrefix; cases r <;> simp [List.isPrefixOf]
theorem idx_pos (c : UInt8) (r : List UInt8) (h : Lib.hasPrefix (c :: r) [47, 47] = true) (h0 : ¬ Lib.indexByte (c :: r) 10 < 0) : 0 < (Lib.indexByte (c :: r) 10).toNat := by
  have hc : c = 47 := by rw [hp2] at h; simp at h; exact h.1.symm
  subst hc
  have := Lib.indexByte_ge r 10
  simp only [Lib.indexByte] at h0 ⊢
  simp at h0 ⊢
  by_cases h1 : Lib.indexByte r 10 = -1
  · simp [h1] at h0
  · simp [h1]; omega
theorem blankF_stable : ∀ (n : Nat) (l : List UInt8), l.length ≤ n → blankF n l = blankF l.length l := by
  intro n
  induction n using Nat.strongRecOn with
  | ind n ih =>
    intro l hl
    match n, l, hl with
    | 0, [], _ => rfl
    | n + 1, [], _ => rfl
    | n + 1, c :: r, hl =>
      have hr : r.length ≤ n := by simpa using hl
      have key : ∀ k, 0 < k → blankF n ((c :: r).drop k) = blankF r.length ((c :: r).drop k) := by
        intro k hk
        have hlen : ((c :: r).drop k).length ≤ r.length := by simp; omega
        rw [ih n (by omega) _ (by omega), ih r.length (by omega) _ hlen]
      simp only [List.length_cons, blankF]
      have h1 := key 1 (by omega)
      simp only [List.drop_succ_cons, List.drop_zero] at h1
      by_cases hb : blankI (ic c) = true
      · simp only [hb, if_true, h1]
      simp only [hb, Bool.false_eq_true, if_false]
      by_cases hp : Lib.hasPrefix (c :: r) [47, 47] = true
      · simp only [hp, if_true]
        by_cases h0 : Lib.indexByte (c :: r) 10 < 0
        · simp only [h0, if_true]
        · simp only [h0, if_false, key _ (idx_pos c r hp h0)]
      simp only [hp, Bool.false_eq_true, if_false]
      rw [key _ (Nat.succ_pos ((Lib.index (List.drop 2 (c :: r)) [42, 47]).toNat + 3))]
def blankG (l : List UInt8) : Nat × Bool := blankF l.length l
theorem blankF_G (n : Nat) (l : List UInt8) (h : l.length ≤ n) : blankF n l = blankG l := blankF_stable n l h
theorem blankG_nil : blankG [] = (0, true) := rfl
theorem blankG_one {c : UInt8} {r : List UInt8} (h : blankI (ic c) = true) : blankG (c :: r) = (1 + (blankG r).1, (blankG r).2) := by
  show blankF (r.length + 1) (c :: r) = _
  simp only [blankF, h, if_true]; rfl
theorem blankG_line0 {c : UInt8} {r : List UInt8} (h : blankI (ic c) = false) (h1 : Lib.hasPrefix (c :: r) [47, 47] = true) (h2 : Lib.indexByte (c :: r) 10 < 0) :
    blankG (c :: r) = ((c :: r).length, true) := by
  show blankF (r.length + 1) (c :: r) = _
  simp only [blankF, h, h1, h2, if_true, Bool.false_eq_true, if_false]
theorem blankG_line1 {c : UInt8} {r : List UInt8} (h : blankI (ic c) = false) (h1 : Lib.hasPrefix (c :: r) [47, 47] = true) (h2 : ¬ Lib.indexByte (c :: r) 10 < 0) :
    blankG (c :: r) = ((Lib.indexByte (c :: r) 10).toNat + (blankG ((c :: r).drop (Lib.indexByte (c :: r) 10).toNat)).1, (blankG ((c :: r).drop (Lib.indexByte (c :: r) 10).toNat)).2) := by
  show blankF (r.length + 1) (c :: r) = _
  have := idx_pos c r h1 h2
  rw [← blankF_G r.length _ (by simp; omega)]
  simp only [blankF, h, h1, h2, if_true, Bool.false_eq_true, if_false]
theorem blankG_open {c : UInt8} {r : List UInt8} (h : blankI (ic c) = false) (h1 : Lib.hasPrefix (c :: r) [47, 47] = false) (h2 : Lib.hasPrefix (c :: r) [47, 42] = true) (h3 : Lib.index ((c :: r).drop 2) [42, 47] < 0) :
    blankG (c :: r) = (0, false) := by
  show blankF (r.length + 1) (c :: r) = _
  simp only [blankF, h, h1, h2, h3, if_true, Bool.false_eq_true, if_false]
theorem blankG_block {c : UInt8} {r : List UInt8} (h : blankI (ic c) = false) (h1 : Lib.hasPrefix (c :: r) [47, 47] = false) (h2 : Lib.hasPrefix (c :: r) [47, 42] = true) (h3 : ¬ Lib.index ((c :: r).drop 2) [42, 47] < 0) :
    blankG (c :: r) = ((Lib.index ((c :: r).drop 2) [42, 47]).toNat + 4 + (blankG ((c :: r).drop ((Lib.index ((c :: r).drop 2) [42, 47]).toNat + 4))).1, (blankG ((c :: r).drop ((Lib.index ((c :: r).drop 2) [42, 47]).toNat + 4))).2) := by
  show blankF (r.length + 1) (c :: r) = _
  rw [← blankF_G r.length _ (by simp)]
  simp only [blankF, h, h1, h2, h3, if_true, Bool.false_eq_true, if_false]
theorem blankG_none {c : UInt8} {r : List UInt8} (h : blankI (ic c) = false) (h1 : Lib.hasPrefix (c :: r) [47, 47] = false) (h2 : Lib.hasPrefix (c :: r) [47, 42] = false) :
    blankG (c :: r) = (0, true) := by
  show blankF (r.length + 1) (c :: r) = _
  simp only [blankF, h, h1, h2, Bool.false_eq_true, if_false]
end Go.Proofs.YtghpaggkbpdmkaaDoor
namespace Go.Proofs
open Go.Shelf
def Tryd.lays137_ren : Go.Shelf.Ren := ⟨fun | 137 => 17 | 217 => 31 | 266 => 37 | n => n, fun | 9 => 9 | 5 => 5 | 3 => 3 | n => n, fun | n => n⟩
theorem Tryd.lays137 : Go.Proofs.Lays.n137 Tryd.prog Tryd.lays137_ren := {
  mixed := by kernel_rfl
  f137 := Tryd.func17.trans (congrArg some (by kernel_rfl))
  f217 := Tryd.func31.trans (congrArg some (by kernel_rfl))
  f266 := Tryd.func37.trans (congrArg some (by kernel_rfl))
  t3 := Tryd.underlying3
  a3 := Tryd.isAgg3
  z3 := Tryd.sizeOf3
  v3 := Tryd.zeroValue3
  t5 := Tryd.underlying5
  a5 := Tryd.isAgg5
  z5 := Tryd.sizeOf5
  v5 := Tryd.zeroValue5
  t9 := Tryd.underlying9
  a9 := Tryd.isAgg9
  z9 := Tryd.sizeOf9
  v9 := Tryd.zeroValue9 }
open Go.RowKit in
theorem Tryd.strings_IndexByte (s : ByteArray) (c : Int) (w : World) :
    Calls Tryd.prog 17 #[.string s, .int .u8 c] w fun e w' => e = .returned (.int .i64 (Lib.indexByte s.data.toList c.toNat.toUInt8)) ∧ w' = w := Any.strings_IndexByte Tryd.lays137 s c w
def Tryd.lays217_ren : Go.Shelf.Ren := ⟨fun | 217 => 31 | 266 => 37 | n => n, fun | 9 => 9 | 5 => 5 | 3 => 3 | n => n, fun | n => n⟩
theorem Tryd.lays217 : Go.Proofs.Lays.n217 Tryd.prog Tryd.lays217_ren := {
  mixed := by kernel_rfl
  f217 := Tryd.func31.trans (congrArg some (by kernel_rfl))
  f266 := Tryd.func37.trans (congrArg some (by kernel_rfl))
  t3 := Tryd.underlying3
  a3 := Tryd.isAgg3
  z3 := Tryd.sizeOf3
  v3 := Tryd.zeroValue3
  t5 := Tryd.underlying5
  a5 := Tryd.isAgg5
  z5 := Tryd.sizeOf5
  v5 := Tryd.zeroValue5
  t9 := Tryd.underlying9
  a9 := Tryd.isAgg9
  z9 := Tryd.sizeOf9
  v9 := Tryd.zeroValue9 }
open Go.RowKit Go.Lib in
theorem Tryd.stringslite_IndexByte (s : ByteArray) (c : Int) (w : World) :
    Calls Tryd.prog 31 #[.string s, .int .u8 c] w fun e w' => e = .returned (.int .i64 (Lib.indexByte s.data.toList c.toNat.toUInt8)) ∧ w' = w := Any.stringslite_IndexByte Tryd.lays217 s c w
def Tryd.lays224_ren : Go.Shelf.Ren := ⟨fun | 224 => 39 | n => n, fun | 3 => 3 | n => n, fun | n => n⟩
theorem Tryd.lays224 : Go.Proofs.Lays.n224 Tryd.prog Tryd.lays224_ren := {
  mixed := by kernel_rfl
  f224 := Tryd.func39.trans (congrArg some (by kernel_rfl))
  t3 := Tryd.underlying3
  a3 := Tryd.isAgg3
  z3 := Tryd.sizeOf3
  v3 := Tryd.zeroValue3 }
open Go.RowKit Go.Lib in
theorem Tryd.bytealg_Cutover (n : Int) (h0 : 0 ≤ n) (h1 : n < 4611686018427387904) (w : World) :
    Calls Tryd.prog 39 #[.int .i64 n] w fun e w' => e = .returned (.int .i64 ((n + 16) / 8)) ∧ w' = w := Any.bytealg_Cutover Tryd.lays224 n h0 h1 w
def Tryd.lays314_ren : Go.Shelf.Ren := ⟨fun | 314 => 42 | n => n, fun | 9 => 9 | 51 => 67 | 3 => 3 | 4 => 4 | 5 => 5 | 46 => 41 | n => n, fun | n => n⟩
theorem Tryd.lays314 : Go.Proofs.Lays.n314 Tryd.prog Tryd.lays314_ren := {
  mixed := by kernel_rfl
  f314 := Tryd.func42.trans (congrArg some (by kernel_rfl))
  t3 := Tryd.underlying3
  a3 := Tryd.isAgg3
  z3 := Tryd.sizeOf3
  v3 := Tryd.zeroValue3
  t4 := Tryd.underlying4
  a4 := Tryd.isAgg4
  z4 := Tryd.sizeOf4
  v4 := Tryd.zeroValue4
  t5 := Tryd.underlying5
  a5 := Tryd.isAgg5
  z5 := Tryd.sizeOf5
  v5 := Tryd.zeroValue5
  t9 := Tryd.underlying9
  a9 := Tryd.isAgg9
  z9 := Tryd.sizeOf9
  v9 := Tryd.zeroValue9
  t46 := Tryd.underlying41
  a46 := Tryd.isAgg41
  z46 := Tryd.sizeOf41
  v46 := Tryd.zeroValue41
  t51 := Tryd.underlying67
  a51 := Tryd.isAgg67
  z51 := Tryd.sizeOf67
  v51 := Tryd.zeroValue67 }
open Go.RowKit Go.Lib in
theorem Tryd.bytealg_hashStr (sep : ByteArray) (hs : sep.size < 4294967281) (w : World) :
    Calls Tryd.prog 42 #[.string sep] w fun e w' => e = .returned (.tuple #[.int .u32 (RK.H sep.data.toList % 4294967296), .int .u32 (16777619 ^ sep.size % 4294967296)]) ∧ w' = w := Any.bytealg_hashStr Tryd.lays314 sep hs w
def Tryd.lays267_ren : Go.Shelf.Ren := ⟨fun | 267 => 40 | 314 => 42 | n => n, fun | 9 => 9 | 3 => 3 | 146 => 70 | 51 => 67 | 4 => 4 | 5 => 5 | 46 => 41 | n => n, fun | n => n⟩
theorem Tryd.lays267 : Go.Proofs.Lays.n267 Tryd.prog Tryd.lays267_ren := {
  mixed := by kernel_rfl
  f267 := Tryd.func40.trans (congrArg some (by kernel_rfl))
  f314 := Tryd.func42.trans (congrArg some (by kernel_rfl))
  t3 := Tryd.underlying3
  a3 := Tryd.isAgg3
  z3 := Tryd.sizeOf3
  v3 := Tryd.zeroValue3
  t4 := Tryd.underlying4
  a4 := Tryd.isAgg4
  z4 := Tryd.sizeOf4
  v4 := Tryd.zeroValue4
  t5 := Tryd.underlying5
  a5 := Tryd.isAgg5
  z5 := Tryd.sizeOf5
  v5 := Tryd.zeroValue5
  t9 := Tryd.underlying9
  a9 := Tryd.isAgg9
  z9 := Tryd.sizeOf9
  v9 := Tryd.zeroValue9
  t46 := Tryd.underlying41
  a46 := Tryd.isAgg41
  z46 := Tryd.sizeOf41
  v46 := Tryd.zeroValue41
  t51 := Tryd.underlying67
  a51 := Tryd.isAgg67
  z51 := Tryd.sizeOf67
  v51 := Tryd.zeroValue67
  t146 := Tryd.underlying70
  a146 := Tryd.isAgg70
  z146 := Tryd.sizeOf70
  v146 := Tryd.zeroValue70 }
open Go.RowKit Go.Lib in
theorem Tryd.bytealg_IndexRabinKarp (s sep : ByteArray) (h1 : 1 ≤ sep.size) (h2 : sep.size ≤ s.size) (hs : s.size < 4294967281) (w : World) :
    Calls Tryd.prog 40 #[.string s, .string sep] w fun e w' => e = .returned (.int .i64 (Lib.index s.data.toList sep.data.toList)) ∧ w' = w := Any.bytealg_IndexRabinKarp Tryd.lays267 s sep h1 h2 hs w
def Tryd.lays219_ren : Go.Shelf.Ren := ⟨fun | 219 => 32 | 217 => 31 | 225 => 38 | 224 => 39 | 267 => 40 | 266 => 37 | 314 => 42 | n => n, fun | 9 => 9 | 3 => 3 | 4 => 4 | 5 => 5 | 46 => 41 | 146 => 70 | 51 => 67 | n => n, fun | 1 => 1 | n => n⟩
theorem Tryd.lays219 : Go.Proofs.Lays.n219 Tryd.prog Tryd.lays219_ren := {
  mixed := by kernel_rfl
  f217 := Tryd.func31.trans (congrArg some (by kernel_rfl))
  f219 := Tryd.func32.trans (congrArg some (by kernel_rfl))
  f224 := Tryd.func39.trans (congrArg some (by kernel_rfl))
  f225 := Tryd.func38.trans (congrArg some (by kernel_rfl))
  f266 := Tryd.func37.trans (congrArg some (by kernel_rfl))
  f267 := Tryd.func40.trans (congrArg some (by kernel_rfl))
  f314 := Tryd.func42.trans (congrArg some (by kernel_rfl))
  t3 := Tryd.underlying3
  a3 := Tryd.isAgg3
  z3 := Tryd.sizeOf3
  v3 := Tryd.zeroValue3
  t4 := Tryd.underlying4
  a4 := Tryd.isAgg4
  z4 := Tryd.sizeOf4
  v4 := Tryd.zeroValue4
  t5 := Tryd.underlying5
  a5 := Tryd.isAgg5
  z5 := Tryd.sizeOf5
  v5 := Tryd.zeroValue5
  t9 := Tryd.underlying9
  a9 := Tryd.isAgg9
  z9 := Tryd.sizeOf9
  v9 := Tryd.zeroValue9
  t46 := Tryd.underlying41
  a46 := Tryd.isAgg41
  z46 := Tryd.sizeOf41
  v46 := Tryd.zeroValue41
  t51 := Tryd.underlying67
  a51 := Tryd.isAgg67
  z51 := Tryd.sizeOf67
  v51 := Tryd.zeroValue67
  t146 := Tryd.underlying70
  a146 := Tryd.isAgg70
  z146 := Tryd.sizeOf70
  v146 := Tryd.zeroValue70
  g1 := by kernel_rfl }
open Go.RowKit Go.Lib in
theorem Tryd.stringslite_Index_one (s : ByteArray) (c : UInt8) (w : World) :
    Calls Tryd.prog 32 #[.string s, .string ⟨#[c]⟩] w fun e w' => e = .returned (.int .i64 (Lib.indexByte s.data.toList c)) ∧ w' = w := Any.stringslite_Index_one Tryd.lays219 s c w
open Go.RowKit Go.Lib in
theorem Tryd.stringslite_Index (s sub : ByteArray) (m : Int) (w : World) (hs : s.size < 4294967281) (hm : w.cell? ⟨1, 0, none⟩ = some (.int .i64 m)) :
    Calls Tryd.prog 32 #[.string s, .string sub] w fun e w' => e = .returned (.int .i64 (Lib.index s.data.toList sub.data.toList)) ∧ w' = w := Any.stringslite_Index Tryd.lays219 s sub m w hs hm
def Tryd.lays143_ren : Go.Shelf.Ren := ⟨fun | 143 => 18 | 219 => 32 | 217 => 31 | 225 => 38 | 224 => 39 | 267 => 40 | 266 => 37 | 314 => 42 | n => n, fun | 9 => 9 | 3 => 3 | 4 => 4 | 5 => 5 | 46 => 41 | 146 => 70 | 51 => 67 | n => n, fun | 1 => 1 | n => n⟩
theorem Tryd.lays143 : Go.Proofs.Lays.n143 Tryd.prog Tryd.lays143_ren := {
  mixed := by kernel_rfl
  f143 := Tryd.func18.trans (congrArg some (by kernel_rfl))
  f217 := Tryd.func31.trans (congrArg some (by kernel_rfl))
  f219 := Tryd.func32.trans (congrArg some (by kernel_rfl))
  f224 := Tryd.func39.trans (congrArg some (by kernel_rfl))
  f225 := Tryd.func38.trans (congrArg some (by kernel_rfl))
  f266 := Tryd.func37.trans (congrArg some (by kernel_rfl))
  f267 := Tryd.func40.trans (congrArg some (by kernel_rfl))
  f314 := Tryd.func42.trans (congrArg some (by kernel_rfl))
  t3 := Tryd.underlying3
  a3 := Tryd.isAgg3
  z3 := Tryd.sizeOf3
  v3 := Tryd.zeroValue3
  t4 := Tryd.underlying4
  a4 := Tryd.isAgg4
  z4 := Tryd.sizeOf4
  v4 := Tryd.zeroValue4
  t5 := Tryd.underlying5
  a5 := Tryd.isAgg5
  z5 := Tryd.sizeOf5
  v5 := Tryd.zeroValue5
  t9 := Tryd.underlying9
  a9 := Tryd.isAgg9
  z9 := Tryd.sizeOf9
  v9 := Tryd.zeroValue9
  t46 := Tryd.underlying41
  a46 := Tryd.isAgg41
  z46 := Tryd.sizeOf41
  v46 := Tryd.zeroValue41
  t51 := Tryd.underlying67
  a51 := Tryd.isAgg67
  z51 := Tryd.sizeOf67
  v51 := Tryd.zeroValue67
  t146 := Tryd.underlying70
  a146 := Tryd.isAgg70
  z146 := Tryd.sizeOf70
  v146 := Tryd.zeroValue70
  g1 := by kernel_rfl }
open Go.RowKit Go.Lib in
theorem Tryd.strings_Index_one (s : ByteArray) (c : UInt8) (w : World) :
    Calls Tryd.prog 18 #[.string s, .string ⟨#[c]⟩] w fun e w' => e = .returned (.int .i64 (Lib.indexByte s.data.toList c)) ∧ w' = w := Any.strings_Index_one Tryd.lays143 s c w
open Go.RowKit Go.Lib in
theorem Tryd.strings_Index (s sub : ByteArray) (m : Int) (w : World) (hs : s.size < 4294967281) (hm : w.cell? ⟨1, 0, none⟩ = some (.int .i64 m)) :
    Calls Tryd.prog 18 #[.string s, .string sub] w fun e w' => e = .returned (.int .i64 (Lib.index s.data.toList sub.data.toList)) ∧ w' = w := Any.strings_Index Tryd.lays143 s sub m w hs hm
def Tryd.lays144_ren : Go.Shelf.Ren := ⟨fun | 144 => 21 | 143 => 18 | 219 => 32 | 217 => 31 | 225 => 38 | 224 => 39 | 267 => 40 | 266 => 37 | 314 => 42 | n => n, fun | 9 => 9 | 4 => 4 | 3 => 3 | 5 => 5 | 46 => 41 | 146 => 70 | 51 => 67 | n => n, fun | 1 => 1 | n => n⟩
theorem Tryd.lays144 : Go.Proofs.Lays.n144 Tryd.prog Tryd.lays144_ren := {
  mixed := by kernel_rfl
  f143 := Tryd.func18.trans (congrArg some (by kernel_rfl))
  f144 := Tryd.func21.trans (congrArg some (by kernel_rfl))
  f217 := Tryd.func31.trans (congrArg some (by kernel_rfl))
  f219 := Tryd.func32.trans (congrArg some (by kernel_rfl))
  f224 := Tryd.func39.trans (congrArg some (by kernel_rfl))
  f225 := Tryd.func38.trans (congrArg some (by kernel_rfl))
  f266 := Tryd.func37.trans (congrArg some (by kernel_rfl))
  f267 := Tryd.func40.trans (congrArg some (by kernel_rfl))
  f314 := Tryd.func42.trans (congrArg some (by kernel_rfl))
  t3 := Tryd.underlying3
  a3 := Tryd.isAgg3
  z3 := Tryd.sizeOf3
  v3 := Tryd.zeroValue3
  t4 := Tryd.underlying4
  a4 := Tryd.isAgg4
  z4 := Tryd.sizeOf4
  v4 := Tryd.zeroValue4
  t5 := Tryd.underlying5
  a5 := Tryd.isAgg5
  z5 := Tryd.sizeOf5
  v5 := Tryd.zeroValue5
  t9 := Tryd.underlying9
  a9 := Tryd.isAgg9
  z9 := Tryd.sizeOf9
  v9 := Tryd.zeroValue9
  t46 := Tryd.underlying41
  a46 := Tryd.isAgg41
  z46 := Tryd.sizeOf41
  v46 := Tryd.zeroValue41
  t51 := Tryd.underlying67
  a51 := Tryd.isAgg67
  z51 := Tryd.sizeOf67
  v51 := Tryd.zeroValue67
  t146 := Tryd.underlying70
  a146 := Tryd.isAgg70
  z146 := Tryd.sizeOf70
  v146 := Tryd.zeroValue70
  g1 := by kernel_rfl }
open Go.RowKit Go.Lib in
theorem Tryd.strings_Contains_one (s : ByteArray) (c : UInt8) (w : World) :
    Calls Tryd.prog 21 #[.string s, .string ⟨#[c]⟩] w fun e w' => e = .returned (.bool (decide (0 ≤ Lib.indexByte s.data.toList c))) ∧ w' = w := Any.strings_Contains_one Tryd.lays144 s c w
open Go.RowKit Go.Lib in
theorem Tryd.strings_Contains (s sub : ByteArray) (m : Int) (w : World) (hs : s.size < 4294967281) (hm : w.cell? ⟨1, 0, none⟩ = some (.int .i64 m)) :
    Calls Tryd.prog 21 #[.string s, .string sub] w fun e w' => e = .returned (.bool (Lib.contains s.data.toList sub.data.toList)) ∧ w' = w := Any.strings_Contains Tryd.lays144 s sub m w hs hm
end Go.Proofs
namespace Go.Proofs.YtghpaggkbpdmkaaDoor
def chr (s : ByteArray) (i : Nat) : Int := if h : i < s.size then ((s[i]'h).toNat : Int) else -1
theorem chr_lt {s : ByteArray} {i : Nat} (h : i < s.size) : chr s i = ((s[i]'h).toNat : Int) := by unfold chr; rw [dif_pos h]
theorem chr_ge {s : ByteArray} {i : Nat} (h : ¬ i < s.size) : chr s i = -1 := by unfold chr; rw [dif_neg h]
theorem chr_nn {s : ByteArray} {i : Nat} (h : i < s.size) : 0 ≤ chr s i := by rw [chr_lt h]; omega
theorem chr_le (s : ByteArray) (i : Nat) : chr s i ≤ 255 := by
  unfold chr; split
  · have := (s[i]).toNat_lt; omega
  · omega
def valN (c : Int) : Nat := (valueI c).toNat
theorem valueI_nn (c : Int) : 0 ≤ valueI c ∧ valueI c ≤ 99 := by
  unfold valueI digitI
  simp only [Bool.and_eq_true, decide_eq_true_eq]
  repeat' split
  all_goals omega
theorem valN_cast (c : Int) : valueI c = (valN c : Int) := by
  have := valueI_nn c
  unfold valN; omega
theorem valN_le (c : Int) : valN c ≤ 99 := by
  have := valueI_nn c
  unfold valN; omega
structure TokS where
  kind : Nat
  text : ByteArray
  pos : Nat
  value : Nat
  uns : Bool
  long : Bool
def zeroTok : TokS := ⟨0, ⟨#[]⟩, 0, 0, false, false⟩
def numL (s : ByteArray) (base : Nat) : Nat → Nat → Nat → Option (Nat × Nat)
  | 0, e, v => some (v, e)
  | n + 1, e, v => if wordyI (chr s e) = true ∧ valN (chr s e) < base then (if (18446744073709551615 - valN (chr s e)) / base < v then none else numL s base n (e + 1) (v * base + valN (chr s e))) else some (v, e)
def numTail (s : ByteArray) (p v e : Nat) : TokS × Bool :=
  let u := chr s e == 117
  let e1 := if u then e + 1 else e
  let g := chr s e1 == 108
  let e2 := if g then e1 + 1 else e1
  (⟨3, s.extract p e2, p, v, u, g⟩, !(wordyI (chr s e2)))
def numHex (s : ByteArray) (p : Nat) : Bool := chr s p == 48 && chr s (p + 1) == 120
def numberR (s : ByteArray) (p base start : Nat) : TokS × Bool :=
  match numL s base (s.size - start) start 0 with
  | none => (zeroTok, false)
  | some (v, e) => if e = start then (zeroTok, false) else numTail s p v e
def numberS (s : ByteArray) (p : Nat) : TokS × Bool := if numHex s p then numberR s p 16 (p + 2) else numberR s p 10 p
theorem numL_step {s : ByteArray} {base e v : Nat} (he : e < s.size) : numL s base (s.size - e) e v = if wordyI (chr s e) = true ∧ valN (chr s e) < base then (if (18446744073709551615 - valN (chr s e)) / base < v then none else numL s base (s.size - (e + 1)) (e + 1) (v * base + valN (chr s e))) else some (v, e) := by
  have : s.size - e = (s.size - (e + 1)) + 1 := by omega
  rw [this, numL]
theorem numL_end {s : ByteArray} {base e v : Nat} (he : ¬ e < s.size) : numL s base (s.size - e) e v = some (v, e) := by
  have : s.size - e = 0 := by omega
  rw [this, numL]
theorem hasP2 {s : ByteArray} {p : Nat} {a b : UInt8} (hp : p ≤ s.size) : Lib.hasPrefix (s.extract p s.size).data.toList [a, b] = (chr s p == (a.toNat : Int) && chr s (p + 1) == (b.toNat : Int)) := by
  have key : (s.extract p s.size).data.toList = s.data.toList.drop p := by
    rw [Lib.extract_data]
    simp [List.take_of_length_le]
  have get : ∀ i (h : i < s.size), s.data.toList[i]? = some (s[i]'h) := by
    intro i h
    rw [Array.getElem?_toList]
    exact Array.getElem?_eq_getElem (by simpa using h)
  have u8 : ∀ x y : UInt8, ((x.toNat : Int) == (y.toNat : Int)) = (y == x) := by
    intro x y
    rw [Bool.eq_iff_iff]; simp only [beq_iff_eq]
    constructor
    · intro h; exact (UInt8.toNat_inj.1 (by omega)).symm
    · intro h; rw [h]
  rw [key]
  by_cases h0 : p < s.size
  · have g0 := get p h0
    have d0 : s.data.toList.drop p = s[p] :: s.data.toList.drop (p + 1) := by
      have hl : p < s.data.toList.length := by simpa using h0
      rw [List.drop_eq_getElem_cons hl]
      congr 1
    rw [d0, hp2, chr_lt h0, u8]
    congr 1
    by_cases h1 : p + 1 < s.size
    · have hl : p + 1 < s.data.toList.length := by simpa using h1
      rw [List.drop_eq_getElem_cons hl, chr_lt h1, u8]
      rfl
    · have hl : s.data.toList.length ≤ p + 1 := by simpa using h1
      rw [List.drop_eq_nil_of_le hl, chr_ge h1]
      simp
  · have hl : s.data.toList.length ≤ p := by simpa using h0
    rw [List.drop_eq_nil_of_le hl, chr_ge h0]
    simp [Lib.hasPrefix]
end Go.Proofs.YtghpaggkbpdmkaaDoor
namespace Go.Proofs.YtghpaggkbpdmkaaDoor
open Go.AH
attribute [local irreducible] W RS
theorem digit_tf (c : Int) (h : Hp) : TF Tryd.prog 20 ⟨[.int .u8 c]⟩ h (.bool (digitI c)) h := by
  refine TF.still (fn := Tryd.f20) (c := (Tryd.f20.body.getD .skip)) Tryd.func20 (by kernel_rfl) Tryd.ntmps20 (by kernel_rfl) (by simp) ?_
  conv => arg 2; whnf
  repeat (first | ((with_reducible apply RS.move); exact rfl; exact rfl; exact rfl) | ((with_reducible apply RS.assign); exact rfl; exact rfl; exact rfl) | ((with_reducible apply RS.pickT); exact rfl; exact rfl; exact rfl; exact rfl) | ((with_reducible apply RS.pickF); exact rfl; exact rfl; exact rfl; exact rfl) | ((with_reducible apply RS.cmpT); exact rfl; exact rfl; exact rfl; exact rfl; (simp only [cmpP]; omega)) | ((with_reducible apply RS.cmpF); exact rfl; exact rfl; exact rfl; exact rfl; (simp only [cmpN]; omega)) | ((with_reducible apply RS.cmpC); exact rfl; exact rfl; exact rfl; exact rfl; exact rfl) | ((with_reducible apply RS.cmpNat); exact rfl; exact rfl; exact rfl; exact rfl; exact rfl) | ((with_reducible apply RS.add3); exact rfl; exact rfl; exact rfl; exact rfl; omega) | ((with_reducible apply RS.add1); exact rfl; exact rfl; exact rfl; exact rfl; omega) | ((with_reducible apply RS.add2); exact rfl; exact rfl; exact rfl; exact rfl; omega) | ((with_reducible apply RS.add4); exact rfl; exact rfl; exact rfl; exact rfl; omega) | ((with_reducible apply RS.sub1); exact rfl; exact rfl; exact rfl; exact rfl; omega) | ((with_reducible apply RS.addNat); exact rfl; exact rfl; exact rfl; exact rfl; omega) | ((with_reducible apply RS.subNat); exact rfl; exact rfl; exact rfl; exact rfl; omega) | ((with_reducible apply RS.addU); exact rfl; exact rfl; exact rfl; exact rfl; (first | omega | assumption)) | ((with_reducible apply RS.subUM); exact rfl; exact rfl; exact rfl; exact rfl; omega) | ((with_reducible apply RS.subU); exact rfl; exact rfl; exact rfl; exact rfl; omega) | ((with_reducible apply RS.mulU); exact rfl; exact rfl; exact rfl; exact rfl; (first | omega | assumption)) | ((with_reducible apply RS.quoU); exact rfl; exact rfl; exact rfl; exact rfl; omega) | ((with_reducible apply RS.binFit); exact rfl; exact rfl; exact rfl; exact rfl; exact rfl; omega) | ((with_reducible apply RS.bin); exact rfl; exact rfl; exact rfl; exact rfl; exact rfl) | ((with_reducible apply RS.binStr); exact rfl; exact rfl; exact rfl; exact rfl; exact rfl) | ((with_reducible apply RS.lenStr); exact rfl; exact rfl; exact rfl) | ((with_reducible apply RS.lenSl); exact rfl; exact rfl; exact rfl) | ((with_reducible apply RS.indexStr); exact rfl; exact rfl; exact rfl; exact rfl; exact rfl; omega) | ((with_reducible apply RS.not); exact rfl; exact rfl; exact rfl) | ((with_reducible apply RS.convI); exact rfl; exact rfl; exact rfl) | ((with_reducible apply RS.extract); exact rfl; exact rfl; exact rfl; exact rfl) | ((with_reducible apply RS.fieldAddr); exact rfl; exact rfl; exact rfl) | ((with_reducible apply RS.load1); exact rfl; exact rfl; exact rfl; exact rfl; exact rfl; exact rfl) | ((with_reducible apply RS.loadN); exact rfl; exact rfl; exact rfl; exact rfl; exact rfl; exact Nat.le_of_ble_eq_true rfl) | ((with_reducible apply RS.store); exact rfl; exact rfl; exact rfl; exact rfl; exact rfl; exact Nat.le_of_ble_eq_true rfl; exact rfl; exact rfl; exact rfl) | ((with_reducible apply RS.alloc); exact rfl; exact rfl) | ((with_reducible apply RS.box); exact rfl; exact rfl; exact rfl) | ((with_reducible apply RS.build); exact rfl; exact rfl; exact rfl; exact rfl) | ((with_reducible apply RS.skip); exact rfl; exact rfl) | ((with_reducible apply RS.nil); exact mixed; kernel_rfl) | ((with_reducible apply W.seq)) | ((with_reducible apply W.reg); kernel_rfl) | ((with_reducible apply W.block)) | ((with_reducible apply W.exit)) | ((with_reducible apply W.ret)) | ((with_reducible apply W.skip)) | ((with_reducible apply W.label)) | ((with_reducible apply W.condT); kernel_rfl; exact rfl) | ((with_reducible apply W.condF); kernel_rfl; exact rfl) | ((with_reducible apply thenK_n)) | ((with_reducible apply thenK_e)) | ((with_reducible apply thenK_r)) | ((with_reducible apply blockK_n)) | ((with_reducible apply blockK_r)) | ((with_reducible apply blockK_hit); exact rfl) | ((with_reducible apply blockK_miss); exact rfl) | ((with_reducible apply roundK_e)) | ((with_reducible apply roundK_r)) | ((with_reducible apply joinK_e)) | ((with_reducible apply joinK_r)))
  refine RS.splitG rfl rfl (fun h1 => ?_) (fun h1 => ?_)
  all_goals repeat (first | ((with_reducible apply RS.move); exact rfl; exact rfl; exact rfl) | ((with_reducible apply RS.assign); exact rfl; exact rfl; exact rfl) | ((with_reducible apply RS.pickT); exact rfl; exact rfl; exact rfl; exact rfl) | ((with_reducible apply RS.pickF); exact rfl; exact rfl; exact rfl; exact rfl) | ((with_reducible apply RS.cmpT); exact rfl; exact rfl; exact rfl; exact rfl; (simp only [cmpP]; omega)) | ((with_reducible apply RS.cmpF); exact rfl; exact rfl; exact rfl; exact rfl; (simp only [cmpN]; omega)) | ((with_reducible apply RS.cmpC); exact rfl; exact rfl; exact rfl; exact rfl; exact rfl) | ((with_reducible apply RS.cmpNat); exact rfl; exact rfl; exact rfl; exact rfl; exact rfl) | ((with_reducible apply RS.add3); exact rfl; exact rfl; exact rfl; exact rfl; omega) | ((with_reducible apply RS.add1); exact rfl; exact rfl; exact rfl; exact rfl; omega) | ((with_reducible apply RS.add2); exact rfl; exact rfl; exact rfl; exact rfl; omega) | ((with_reducible apply RS.add4); exact rfl; exact rfl; exact rfl; exact rfl; omega) | ((with_reducible apply RS.sub1); exact rfl; exact rfl; exact rfl; exact rfl; omega) | ((with_reducible apply RS.addNat); exact rfl; exact rfl; exact rfl; exact rfl; omega) | ((with_reducible apply RS.subNat); exact rfl; exact rfl; exact rfl; exact rfl; omega) | ((with_reducible apply RS.addU); exact rfl; exact rfl; exact rfl; exact rfl; (first | omega | assumption)) | ((with_reducible apply RS.subUM); exact rfl; exact rfl; exact rfl; exact rfl; omega) | ((with_reducible apply RS.subU); exact rfl; exact rfl; exact rfl; exact rfl; omega) | ((with_reducible apply RS.mulU); exact rfl; exact rfl; exact rfl; exact rfl; (first | omega | assumption)) | ((with_reducible apply RS.quoU); exact rfl; exact rfl; exact rfl; exact rfl; omega) | ((with_reducible apply RS.binFit); exact rfl; exact rfl; exact rfl; exact rfl; exact rfl; omega) | ((with_reducible apply RS.bin); exact rfl; exact rfl; exact rfl; exact rfl; exact rfl) | ((with_reducible apply RS.binStr); exact rfl; exact rfl; exact rfl; exact rfl; exact rfl) | ((with_reducible apply RS.lenStr); exact rfl; exact rfl; exact rfl) | ((with_reducible apply RS.lenSl); exact rfl; exact rfl; exact rfl) | ((with_reducible apply RS.indexStr); exact rfl; exact rfl; exact rfl; exact rfl; exact rfl; omega) | ((with_reducible apply RS.not); exact rfl; exact rfl; exact rfl) | ((with_reducible apply RS.convI); exact rfl; exact rfl; exact rfl) | ((with_reducible apply RS.extract); exact rfl; exact rfl; exact rfl; exact rfl) | ((with_reducible apply RS.fieldAddr); exact rfl; exact rfl; exact rfl) | ((with_reducible apply RS.load1); exact rfl; exact rfl; exact rfl; exact rfl; exact rfl; exact rfl) | ((with_reducible apply RS.loadN); exact rfl; exact rfl; exact rfl; exact rfl; exact rfl; exact Nat.le_of_ble_eq_true rfl) | ((with_reducible apply RS.store); exact rfl; exact rfl; exact rfl; exact rfl; exact rfl; exact Nat.le_of_ble_eq_true rfl; exact rfl; exact rfl; exact rfl) | ((with_reducible apply RS.alloc); exact rfl; exact rfl) | ((with_reducible apply RS.box); exact rfl; exact rfl; exact rfl) | ((with_reducible apply RS.build); exact rfl; exact rfl; exact rfl; exact rfl) | ((with_reducible apply RS.skip); exact rfl; exact rfl) | ((with_reducible apply RS.nil); exact mixed; kernel_rfl) | ((with_reducible apply W.seq)) | ((with_reducible apply W.reg); kernel_rfl) | ((with_reducible apply W.block)) | ((with_reducible apply W.exit)) | ((with_reducible apply W.ret)) | ((with_reducible apply W.skip)) | ((with_reducible apply W.label)) | ((with_reducible apply W.condT); kernel_rfl; exact rfl) | ((with_reducible apply W.condF); kernel_rfl; exact rfl) | ((with_reducible apply thenK_n)) | ((with_reducible apply thenK_e)) | ((with_reducible apply thenK_r)) | ((with_reducible apply blockK_n)) | ((with_reducible apply blockK_r)) | ((with_reducible apply blockK_hit); exact rfl) | ((with_reducible apply blockK_miss); exact rfl) | ((with_reducible apply roundK_e)) | ((with_reducible apply roundK_r)) | ((with_reducible apply joinK_e)) | ((with_reducible apply joinK_r)))
  all_goals refine endsK_ret _ (.cons (.tmp rfl) .nil) ⟨rfl, ?_⟩
  all_goals simp only [resultOf, Value.bool.injEq, digitI]
  all_goals (rw [Bool.eq_iff_iff]; simp at *; try omega)
theorem letter_tf (c : Int) (h : Hp) : TF Tryd.prog 19 ⟨[.int .u8 c]⟩ h (.bool (letterI c)) h := by
  refine TF.still (fn := Tryd.f19) (c := (Tryd.f19.body.getD .skip)) Tryd.func19 (by kernel_rfl) Tryd.ntmps19 (by kernel_rfl) (by simp) ?_
  conv => arg 2; whnf
  repeat (first | ((with_reducible apply RS.move); exact rfl; exact rfl; exact rfl) | ((with_reducible apply RS.assign); exact rfl; exact rfl; exact rfl) | ((with_reducible apply RS.pickT); exact rfl; exact rfl; exact rfl; exact rfl) | ((with_reducible apply RS.pickF); exact rfl; exact rfl; exact rfl; exact rfl) | ((with_reducible apply RS.cmpT); exact rfl; exact rfl; exact rfl; exact rfl; (simp only [cmpP]; omega)) | ((with_reducible apply RS.cmpF); exact rfl; exact rfl; exact rfl; exact rfl; (simp only [cmpN]; omega)) | ((with_reducible apply RS.cmpC); exact rfl; exact rfl; exact rfl; exact rfl; exact rfl) | ((with_reducible apply RS.cmpNat); exact rfl; exact rfl; exact rfl; exact rfl; exact rfl) | ((with_reducible apply RS.add3); exact rfl; exact rfl; exact rfl; exact rfl; omega) | ((with_reducible apply RS.add1); exact rfl; exact rfl; exact rfl; exact rfl; omega) | ((with_reducible apply RS.add2); exact rfl; exact rfl; exact rfl; exact rfl; omega) | ((with_reducible apply RS.add4); exact rfl; exact rfl; exact rfl; exact rfl; omega) | ((with_reducible apply RS.sub1); exact rfl; exact rfl; exact rfl; exact rfl; omega) | ((with_reducible apply RS.addNat); exact rfl; exact rfl; exact rfl; exact rfl; omega) | ((with_reducible apply RS.subNat); exact rfl; exact rfl; exact rfl; exact rfl; omega) | ((with_reducible apply RS.addU); exact rfl; exact rfl; exact rfl; exact rfl; (first | omega | assumption)) | ((with_reducible apply RS.subUM); exact rfl; exact rfl; exact rfl; exact rfl; omega) | ((with_reducible apply RS.subU); exact rfl; exact rfl; exact rfl; exact rfl; omega) | ((with_reducible apply RS.mulU); exact rfl; exact rfl; exact rfl; exact rfl; (first | omega | assumption)) | ((with_reducible apply RS.quoU); exact rfl; exact rfl; exact rfl; exact rfl; omega) | ((with_reducible apply RS.binFit); exact rfl; exact rfl; exact rfl; exact rfl; exact rfl; omega) | ((with_reducible apply RS.bin); exact rfl; exact rfl; exact rfl; exact rfl; exact rfl) | ((with_reducible apply RS.binStr); exact rfl; exact rfl; exact rfl; exact rfl; exact rfl) | ((with_reducible apply RS.lenStr); exact rfl; exact rfl; exact rfl) | ((with_reducible apply RS.lenSl); exact rfl; exact rfl; exact rfl) | ((with_reducible apply RS.indexStr); exact rfl; exact rfl; exact rfl; exact rfl; exact rfl; omega) | ((with_reducible apply RS.not); exact rfl; exact rfl; exact rfl) | ((with_reducible apply RS.convI); exact rfl; exact rfl; exact rfl) | ((with_reducible apply RS.extract); exact rfl; exact rfl; exact rfl; exact rfl) | ((with_reducible apply RS.fieldAddr); exact rfl; exact rfl; exact rfl) | ((with_reducible apply RS.load1); exact rfl; exact rfl; exact rfl; exact rfl; exact rfl; exact rfl) | ((with_reducible apply RS.loadN); exact rfl; exact rfl; exact rfl; exact rfl; exact rfl; exact Nat.le_of_ble_eq_true rfl) | ((with_reducible apply RS.store); exact rfl; exact rfl; exact rfl; exact rfl; exact rfl; exact Nat.le_of_ble_eq_true rfl; exact rfl; exact rfl; exact rfl) | ((with_reducible apply RS.alloc); exact rfl; exact rfl) | ((with_reducible apply RS.box); exact rfl; exact rfl; exact rfl) | ((with_reducible apply RS.build); exact rfl; exact rfl; exact rfl; exact rfl) | ((with_reducible apply RS.skip); exact rfl; exact rfl) | ((with_reducible apply RS.nil); exact mixed; kernel_rfl) | ((with_reducible apply W.seq)) | ((with_reducible apply W.reg); kernel_rfl) | ((with_reducible apply W.block)) | ((with_reducible apply W.exit)) | ((with_reducible apply W.ret)) | ((with_reducible apply W.skip)) | ((with_reducible apply W.label)) | ((with_reducible apply W.condT); kernel_rfl; exact rfl) | ((with_reducible apply W.condF); kernel_rfl; exact rfl) | ((with_reducible apply thenK_n)) | ((with_reducible apply thenK_e)) | ((with_reducible apply thenK_r)) | ((with_reducible apply blockK_n)) | ((with_reducible apply blockK_r)) | ((with_reducible apply blockK_hit); exact rfl) | ((with_reducible apply blockK_miss); exact rfl) | ((with_reducible apply roundK_e)) | ((with_reducible apply roundK_r)) | ((with_reducible apply joinK_e)) | ((with_reducible apply joinK_r)))
  repeat' ((refine RS.splitG rfl rfl (fun h1 => ?_) (fun h1 => ?_)) <;> repeat (first | ((with_reducible apply RS.move); exact rfl; exact rfl; exact rfl) | ((with_reducible apply RS.assign); exact rfl; exact rfl; exact rfl) | ((with_reducible apply RS.pickT); exact rfl; exact rfl; exact rfl; exact rfl) | ((with_reducible apply RS.pickF); exact rfl; exact rfl; exact rfl; exact rfl) | ((with_reducible apply RS.cmpT); exact rfl; exact rfl; exact rfl; exact rfl; (simp only [cmpP]; omega)) | ((with_reducible apply RS.cmpF); exact rfl; exact rfl; exact rfl; exact rfl; (simp only [cmpN]; omega)) | ((with_reducible apply RS.cmpC); exact rfl; exact rfl; exact rfl; exact rfl; exact rfl) | ((with_reducible apply RS.cmpNat); exact rfl; exact rfl; exact rfl; exact rfl; exact rfl) | ((with_reducible apply RS.add3); exact rfl; exact rfl; exact rfl; exact rfl; omega) | ((with_reducible apply RS.add1); exact rfl; exact rfl; exact rfl; exact rfl; omega) | ((with_reducible apply RS.add2); exact rfl; exact rfl; exact rfl; exact rfl; omega) | ((with_reducible apply RS.add4); exact rfl; exact rfl; exact rfl; exact rfl; omega) | ((with_reducible apply RS.sub1); exact rfl; exact rfl; exact rfl; exact rfl; omega) | ((with_reducible apply RS.addNat); exact rfl; exact rfl; exact rfl; exact rfl; omega) | ((with_reducible apply RS.subNat); exact rfl; exact rfl; exact rfl; exact rfl; omega) | ((with_reducible apply RS.addU); exact rfl; exact rfl; exact rfl; exact rfl; (first | omega | assumption)) | ((with_reducible apply RS.subUM); exact rfl; exact rfl; exact rfl; exact rfl; omega) | ((with_reducible apply RS.subU); exact rfl; exact rfl; exact rfl; exact rfl; omega) | ((with_reducible apply RS.mulU); exact rfl; exact rfl; exact rfl; exact rfl; (first | omega | assumption)) | ((with_reducible apply RS.quoU); exact rfl; exact rfl; exact rfl; exact rfl; omega) | ((with_reducible apply RS.binFit); exact rfl; exact rfl; exact rfl; exact rfl; exact rfl; omega) | ((with_reducible apply RS.bin); exact rfl; exact rfl; exact rfl; exact rfl; exact rfl) | ((with_reducible apply RS.binStr); exact rfl; exact rfl; exact rfl; exact rfl; exact rfl) | ((with_reducible apply RS.lenStr); exact rfl; exact rfl; exact rfl) | ((with_reducible apply RS.lenSl); exact rfl; exact rfl; exact rfl) | ((with_reducible apply RS.indexStr); exact rfl; exact rfl; exact rfl; exact rfl; exact rfl; omega) | ((with_reducible apply RS.not); exact rfl; exact rfl; exact rfl) | ((with_reducible apply RS.convI); exact rfl; exact rfl; exact rfl) | ((with_reducible apply RS.extract); exact rfl; exact rfl; exact rfl; exact rfl) | ((with_reducible apply RS.fieldAddr); exact rfl; exact rfl; exact rfl) | ((with_reducible apply RS.load1); exact rfl; exact rfl; exact rfl; exact rfl; exact rfl; exact rfl) | ((with_reducible apply RS.loadN); exact rfl; exact rfl; exact rfl; exact rfl; exact rfl; exact Nat.le_of_ble_eq_true rfl) | ((with_reducible apply RS.store); exact rfl; exact rfl; exact rfl; exact rfl; exact rfl; exact Nat.le_of_ble_eq_true rfl; exact rfl; exact rfl; exact rfl) | ((with_reducible apply RS.alloc); exact rfl; exact rfl) | ((with_reducible apply RS.box); exact rfl; exact rfl; exact rfl) | ((with_reducible apply RS.build); exact rfl; exact rfl; exact rfl; exact rfl) | ((with_reducible apply RS.skip); exact rfl; exact rfl) | ((with_reducible apply RS.nil); exact mixed; kernel_rfl) | ((with_reducible apply W.seq)) | ((with_reducible apply W.reg); kernel_rfl) | ((with_reducible apply W.block)) | ((with_reducible apply W.exit)) | ((with_reducible apply W.ret)) | ((with_reducible apply W.skip)) | ((with_reducible apply W.label)) | ((with_reducible apply W.condT); kernel_rfl; exact rfl) | ((with_reducible apply W.condF); kernel_rfl; exact rfl) | ((with_reducible apply thenK_n)) | ((with_reducible apply thenK_e)) | ((with_reducible apply thenK_r)) | ((with_reducible apply blockK_n)) | ((with_reducible apply blockK_r)) | ((with_reducible apply blockK_hit); exact rfl) | ((with_reducible apply blockK_miss); exact rfl) | ((with_reducible apply roundK_e)) | ((with_reducible apply roundK_r)) | ((with_reducible apply joinK_e)) | ((with_reducible apply joinK_r))))
  all_goals refine endsK_ret _ (.cons (.tmp rfl) .nil) ⟨rfl, ?_⟩
  all_goals simp only [resultOf, Value.bool.injEq, letterI]
  all_goals (rw [Bool.eq_iff_iff]; simp at *; try omega)
theorem wrap_u8 {n : Int} (h0 : 0 ≤ n) (h1 : n ≤ 255) : IntKind.u8.wrap n = n := by simp only [IntKind.wrap, IntKind.signed, IntKind.bits]; simp; omega
theorem wrap_u64 {n : Int} (h0 : 0 ≤ n) (h1 : n ≤ 18446744073709551615) : IntKind.u64.wrap n = n := by simp only [IntKind.wrap, IntKind.signed, IntKind.bits]; simp; omega
theorem value_tf (c : Int) (h0 : 0 ≤ c) (h1 : c ≤ 255) (h : Hp) : TF Tryd.prog 33 ⟨[.int .u8 c]⟩ h (.int .u64 (valueI c)) h := by
  refine TF.still (fn := Tryd.f33) (c := (Tryd.f33.body.getD .skip)) Tryd.func33 (by kernel_rfl) Tryd.ntmps33 (by kernel_rfl) (by simp) ?_
  conv => arg 2; whnf
  repeat (first | ((with_reducible apply RS.callP); exact rfl; exact rfl; exact rfl; exact fun H => (digit_tf _ H); exact Nm_free (by simp)) | ((with_reducible apply RS.callP); exact rfl; exact rfl; exact rfl; exact fun H => (letter_tf _ H); exact Nm_free (by simp)) | ((with_reducible apply RS.move); exact rfl; exact rfl; exact rfl) | ((with_reducible apply RS.assign); exact rfl; exact rfl; exact rfl) | ((with_reducible apply RS.pickT); exact rfl; exact rfl; exact rfl; exact rfl) | ((with_reducible apply RS.pickF); exact rfl; exact rfl; exact rfl; exact rfl) | ((with_reducible apply RS.cmpT); exact rfl; exact rfl; exact rfl; exact rfl; (simp only [cmpP]; omega)) | ((with_reducible apply RS.cmpF); exact rfl; exact rfl; exact rfl; exact rfl; (simp only [cmpN]; omega)) | ((with_reducible apply RS.cmpC); exact rfl; exact rfl; exact rfl; exact rfl; exact rfl) | ((with_reducible apply RS.cmpNat); exact rfl; exact rfl; exact rfl; exact rfl; exact rfl) | ((with_reducible apply RS.add3); exact rfl; exact rfl; exact rfl; exact rfl; omega) | ((with_reducible apply RS.add1); exact rfl; exact rfl; exact rfl; exact rfl; omega) | ((with_reducible apply RS.add2); exact rfl; exact rfl; exact rfl; exact rfl; omega) | ((with_reducible apply RS.add4); exact rfl; exact rfl; exact rfl; exact rfl; omega) | ((with_reducible apply RS.sub1); exact rfl; exact rfl; exact rfl; exact rfl; omega) | ((with_reducible apply RS.addNat); exact rfl; exact rfl; exact rfl; exact rfl; omega) | ((with_reducible apply RS.subNat); exact rfl; exact rfl; exact rfl; exact rfl; omega) | ((with_reducible apply RS.addU); exact rfl; exact rfl; exact rfl; exact rfl; (first | omega | assumption)) | ((with_reducible apply RS.subUM); exact rfl; exact rfl; exact rfl; exact rfl; omega) | ((with_reducible apply RS.subU); exact rfl; exact rfl; exact rfl; exact rfl; omega) | ((with_reducible apply RS.mulU); exact rfl; exact rfl; exact rfl; exact rfl; (first | omega | assumption)) | ((with_reducible apply RS.quoU); exact rfl; exact rfl; exact rfl; exact rfl; omega) | ((with_reducible apply RS.binFit); exact rfl; exact rfl; exact rfl; exact rfl; exact rfl; omega) | ((with_reducible apply RS.bin); exact rfl; exact rfl; exact rfl; exact rfl; exact rfl) | ((with_reducible apply RS.binStr); exact rfl; exact rfl; exact rfl; exact rfl; exact rfl) | ((with_reducible apply RS.lenStr); exact rfl; exact rfl; exact rfl) | ((with_reducible apply RS.lenSl); exact rfl; exact rfl; exact rfl) | ((with_reducible apply RS.indexStr); exact rfl; exact rfl; exact rfl; exact rfl; exact rfl; omega) | ((with_reducible apply RS.not); exact rfl; exact rfl; exact rfl) | ((with_reducible apply RS.convI); exact rfl; exact rfl; exact rfl) | ((with_reducible apply RS.extract); exact rfl; exact rfl; exact rfl; exact rfl) | ((with_reducible apply RS.fieldAddr); exact rfl; exact rfl; exact rfl) | ((with_reducible apply RS.load1); exact rfl; exact rfl; exact rfl; exact rfl; exact rfl; exact rfl) | ((with_reducible apply RS.loadN); exact rfl; exact rfl; exact rfl; exact rfl; exact rfl; exact Nat.le_of_ble_eq_true rfl) | ((with_reducible apply RS.store); exact rfl; exact rfl; exact rfl; exact rfl; exact rfl; exact Nat.le_of_ble_eq_true rfl; exact rfl; exact rfl; exact rfl) | ((with_reducible apply RS.alloc); exact rfl; exact rfl) | ((with_reducible apply RS.box); exact rfl; exact rfl; exact rfl) | ((with_reducible apply RS.build); exact rfl; exact rfl; exact rfl; exact rfl) | ((with_reducible apply RS.skip); exact rfl; exact rfl) | ((with_reducible apply RS.nil); exact mixed; kernel_rfl) | ((with_reducible apply W.seq)) | ((with_reducible apply W.reg); kernel_rfl) | ((with_reducible apply W.block)) | ((with_reducible apply W.exit)) | ((with_reducible apply W.ret)) | ((with_reducible apply W.skip)) | ((with_reducible apply W.label)) | ((with_reducible apply W.condT); kernel_rfl; exact rfl) | ((with_reducible apply W.condF); kernel_rfl; exact rfl) | ((with_reducible apply thenK_n)) | ((with_reducible apply thenK_e)) | ((with_reducible apply thenK_r)) | ((with_reducible apply blockK_n)) | ((with_reducible apply blockK_r)) | ((with_reducible apply blockK_hit); exact rfl) | ((with_reducible apply blockK_miss); exact rfl) | ((with_reducible apply roundK_e)) | ((with_reducible apply roundK_r)) | ((with_reducible apply joinK_e)) | ((with_reducible apply joinK_r)))
  repeat' ((first | (((with_reducible apply RS.splitD); exact rfl; exact rfl) <;> intro _) | ((((with_reducible apply RS.splitG); exact rfl; exact rfl) <;> intro _) <;> (fail_if_success (exact absurd ‹true = false› (by decide))) <;> (fail_if_success (exact absurd ‹false = true› (by decide)))) | (((with_reducible apply W.condD); exact rfl) <;> intro _) | ((((with_reducible apply W.cond); exact rfl) <;> intro _) <;> (fail_if_success (exact absurd ‹true = false› (by decide))) <;> (fail_if_success (exact absurd ‹false = true› (by decide))))) <;> repeat (first | ((with_reducible apply RS.callP); exact rfl; exact rfl; exact rfl; exact fun H => (digit_tf _ H); exact Nm_free (by simp)) | ((with_reducible apply RS.callP); exact rfl; exact rfl; exact rfl; exact fun H => (letter_tf _ H); exact Nm_free (by simp)) | ((with_reducible apply RS.move); exact rfl; exact rfl; exact rfl) | ((with_reducible apply RS.assign); exact rfl; exact rfl; exact rfl) | ((with_reducible apply RS.pickT); exact rfl; exact rfl; exact rfl; exact rfl) | ((with_reducible apply RS.pickF); exact rfl; exact rfl; exact rfl; exact rfl) | ((with_reducible apply RS.cmpT); exact rfl; exact rfl; exact rfl; exact rfl; (simp only [cmpP]; omega)) | ((with_reducible apply RS.cmpF); exact rfl; exact rfl; exact rfl; exact rfl; (simp only [cmpN]; omega)) | ((with_reducible apply RS.cmpC); exact rfl; exact rfl; exact rfl; exact rfl; exact rfl) | ((with_reducible apply RS.cmpNat); exact rfl; exact rfl; exact rfl; exact rfl; exact rfl) | ((with_reducible apply RS.add3); exact rfl; exact rfl; exact rfl; exact rfl; omega) | ((with_reducible apply RS.add1); exact rfl; exact rfl; exact rfl; exact rfl; omega) | ((with_reducible apply RS.add2); exact rfl; exact rfl; exact rfl; exact rfl; omega) | ((with_reducible apply RS.add4); exact rfl; exact rfl; exact rfl; exact rfl; omega) | ((with_reducible apply RS.sub1); exact rfl; exact rfl; exact rfl; exact rfl; omega) | ((with_reducible apply RS.addNat); exact rfl; exact rfl; exact rfl; exact rfl; omega) | ((with_reducible apply RS.subNat); exact rfl; exact rfl; exact rfl; exact rfl; omega) | ((with_reducible apply RS.addU); exact rfl; exact rfl; exact rfl; exact rfl; (first | omega | assumption)) | ((with_reducible apply RS.subUM); exact rfl; exact rfl; exact rfl; exact rfl; omega) | ((with_reducible apply RS.subU); exact rfl; exact rfl; exact rfl; exact rfl; omega) | ((with_reducible apply RS.mulU); exact rfl; exact rfl; exact rfl; exact rfl; (first | omega | assumption)) | ((with_reducible apply RS.quoU); exact rfl; exact rfl; exact rfl; exact rfl; omega) | ((with_reducible apply RS.binFit); exact rfl; exact rfl; exact rfl; exact rfl; exact rfl; omega) | ((with_reducible apply RS.bin); exact rfl; exact rfl; exact rfl; exact rfl; exact rfl) | ((with_reducible apply RS.binStr); exact rfl; exact rfl; exact rfl; exact rfl; exact rfl) | ((with_reducible apply RS.lenStr); exact rfl; exact rfl; exact rfl) | ((with_reducible apply RS.lenSl); exact rfl; exact rfl; exact rfl) | ((with_reducible apply RS.indexStr); exact rfl; exact rfl; exact rfl; exact rfl; exact rfl; omega) | ((with_reducible apply RS.not); exact rfl; exact rfl; exact rfl) | ((with_reducible apply RS.convI); exact rfl; exact rfl; exact rfl) | ((with_reducible apply RS.extract); exact rfl; exact rfl; exact rfl; exact rfl) | ((with_reducible apply RS.fieldAddr); exact rfl; exact rfl; exact rfl) | ((with_reducible apply RS.load1); exact rfl; exact rfl; exact rfl; exact rfl; exact rfl; exact rfl) | ((with_reducible apply RS.loadN); exact rfl; exact rfl; exact rfl; exact rfl; exact rfl; exact Nat.le_of_ble_eq_true rfl) | ((with_reducible apply RS.store); exact rfl; exact rfl; exact rfl; exact rfl; exact rfl; exact Nat.le_of_ble_eq_true rfl; exact rfl; exact rfl; exact rfl) | ((with_reducible apply RS.alloc); exact rfl; exact rfl) | ((with_reducible apply RS.box); exact rfl; exact rfl; exact rfl) | ((with_reducible apply RS.build); exact rfl; exact rfl; exact rfl; exact rfl) | ((with_reducible apply RS.skip); exact rfl; exact rfl) | ((with_reducible apply RS.nil); exact mixed; kernel_rfl) | ((with_reducible apply W.seq)) | ((with_reducible apply W.reg); kernel_rfl) | ((with_reducible apply W.block)) | ((with_reducible apply W.exit)) | ((with_reducible apply W.ret)) | ((with_reducible apply W.skip)) | ((with_reducible apply W.label)) | ((with_reducible apply W.condT); kernel_rfl; exact rfl) | ((with_reducible apply W.condF); kernel_rfl; exact rfl) | ((with_reducible apply thenK_n)) | ((with_reducible apply thenK_e)) | ((with_reducible apply thenK_r)) | ((with_reducible apply blockK_n)) | ((with_reducible apply blockK_r)) | ((with_reducible apply blockK_hit); exact rfl) | ((with_reducible apply blockK_miss); exact rfl) | ((with_reducible apply roundK_e)) | ((with_reducible apply roundK_r)) | ((with_reducible apply joinK_e)) | ((with_reducible apply joinK_r))))
  all_goals refine endsK_ret _ (.cons (.tmp rfl) .nil) ⟨rfl, ?_⟩
  all_goals simp only [resultOf, Value.int.injEq, true_and, valueI]
  all_goals simp only [digitI, Bool.and_eq_true, decide_eq_true_eq, Bool.and_eq_false_iff, decide_eq_false_iff_not, ge_iff_le] at *
  all_goals (try rw [wrap_u8 (by omega) (by omega)])
  all_goals (try rw [wrap_u64 (n := c - 97) (by omega) (by omega)])
  all_goals (try rw [wrap_u64 (n := c - 65) (by omega) (by omega)])
  all_goals (try rw [wrap_u64 (by omega) (by omega)])
  all_goals (repeat' split)
  all_goals omega
end Go.Proofs.YtghpaggkbpdmkaaDoor
namespace Go.Proofs.YtghpaggkbpdmkaaDoor
open Go.AH
attribute [local irreducible] W RS
theorem prefix_take (l p : List UInt8) : Lib.hasPrefix l p = (decide (p.length ≤ l.length) && (l.take p.length == p)) := by
  unfold Lib.hasPrefix
  rw [Bool.eq_iff_iff, List.isPrefixOf_iff_prefix, List.prefix_iff_eq_take]
  simp only [Bool.and_eq_true, decide_eq_true_eq, beq_iff_eq]
  constructor
  · intro h
    refine ⟨?_, h.symm⟩
    have := congrArg List.length h
    simp at this; omega
  · intro h; exact h.2.symm
theorem lite_tf (s p : ByteArray) (h : Hp) : TF Tryd.prog 30 ⟨[.string s, .string p]⟩ h (.bool (Lib.hasPrefix s.data.toList p.data.toList)) h := by
  refine TF.still (fn := Tryd.f30) (c := (Tryd.f30.body.getD .skip)) Tryd.func30 (by kernel_rfl) Tryd.ntmps30 (by kernel_rfl) (by simp) ?_
  conv => arg 2; whnf
  repeat (first | ((with_reducible apply RS.sliceStr); exact rfl; exact rfl; exact rfl; (first | exact ⟨_, _, rfl, rfl⟩ | exact rfl); (first | exact ⟨_, _, rfl, rfl⟩ | exact rfl); omega; omega) | ((with_reducible apply RS.move); exact rfl; exact rfl; exact rfl) | ((with_reducible apply RS.assign); exact rfl; exact rfl; exact rfl) | ((with_reducible apply RS.pickT); exact rfl; exact rfl; exact rfl; exact rfl) | ((with_reducible apply RS.pickF); exact rfl; exact rfl; exact rfl; exact rfl) | ((with_reducible apply RS.cmpT); exact rfl; exact rfl; exact rfl; exact rfl; (simp only [cmpP]; omega)) | ((with_reducible apply RS.cmpF); exact rfl; exact rfl; exact rfl; exact rfl; (simp only [cmpN]; omega)) | ((with_reducible apply RS.cmpC); exact rfl; exact rfl; exact rfl; exact rfl; exact rfl) | ((with_reducible apply RS.cmpNat); exact rfl; exact rfl; exact rfl; exact rfl; exact rfl) | ((with_reducible apply RS.add3); exact rfl; exact rfl; exact rfl; exact rfl; omega) | ((with_reducible apply RS.add1); exact rfl; exact rfl; exact rfl; exact rfl; omega) | ((with_reducible apply RS.add2); exact rfl; exact rfl; exact rfl; exact rfl; omega) | ((with_reducible apply RS.add4); exact rfl; exact rfl; exact rfl; exact rfl; omega) | ((with_reducible apply RS.sub1); exact rfl; exact rfl; exact rfl; exact rfl; omega) | ((with_reducible apply RS.addNat); exact rfl; exact rfl; exact rfl; exact rfl; omega) | ((with_reducible apply RS.subNat); exact rfl; exact rfl; exact rfl; exact rfl; omega) | ((with_reducible apply RS.addU); exact rfl; exact rfl; exact rfl; exact rfl; (first | omega | assumption)) | ((with_reducible apply RS.subUM); exact rfl; exact rfl; exact rfl; exact rfl; omega) | ((with_reducible apply RS.subU); exact rfl; exact rfl; exact rfl; exact rfl; omega) | ((with_reducible apply RS.mulU); exact rfl; exact rfl; exact rfl; exact rfl; (first | omega | assumption)) | ((with_reducible apply RS.quoU); exact rfl; exact rfl; exact rfl; exact rfl; omega) | ((with_reducible apply RS.binFit); exact rfl; exact rfl; exact rfl; exact rfl; exact rfl; omega) | ((with_reducible apply RS.bin); exact rfl; exact rfl; exact rfl; exact rfl; exact rfl) | ((with_reducible apply RS.binStr); exact rfl; exact rfl; exact rfl; exact rfl; exact rfl) | ((with_reducible apply RS.lenStr); exact rfl; exact rfl; exact rfl) | ((with_reducible apply RS.lenSl); exact rfl; exact rfl; exact rfl) | ((with_reducible apply RS.indexStr); exact rfl; exact rfl; exact rfl; exact rfl; exact rfl; omega) | ((with_reducible apply RS.not); exact rfl; exact rfl; exact rfl) | ((with_reducible apply RS.convI); exact rfl; exact rfl; exact rfl) | ((with_reducible apply RS.extract); exact rfl; exact rfl; exact rfl; exact rfl) | ((with_reducible apply RS.fieldAddr); exact rfl; exact rfl; exact rfl) | ((with_reducible apply RS.load1); exact rfl; exact rfl; exact rfl; exact rfl; exact rfl; exact rfl) | ((with_reducible apply RS.loadN); exact rfl; exact rfl; exact rfl; exact rfl; exact rfl; exact Nat.le_of_ble_eq_true rfl) | ((with_reducible apply RS.store); exact rfl; exact rfl; exact rfl; exact rfl; exact rfl; exact Nat.le_of_ble_eq_true rfl; exact rfl; exact rfl; exact rfl) | ((with_reducible apply RS.alloc); exact rfl; exact rfl) | ((with_reducible apply RS.box); exact rfl; exact rfl; exact rfl) | ((with_reducible apply RS.build); exact rfl; exact rfl; exact rfl; exact rfl) | ((with_reducible apply RS.skip); exact rfl; exact rfl) | ((with_reducible apply RS.nil); exact mixed; kernel_rfl) | ((with_reducible apply W.seq)) | ((with_reducible apply W.reg); kernel_rfl) | ((with_reducible apply W.block)) | ((with_reducible apply W.exit)) | ((with_reducible apply W.ret)) | ((with_reducible apply W.skip)) | ((with_reducible apply W.label)) | ((with_reducible apply W.condT); kernel_rfl; exact rfl) | ((with_reducible apply W.condF); kernel_rfl; exact rfl) | ((with_reducible apply thenK_n)) | ((with_reducible apply thenK_e)) | ((with_reducible apply thenK_r)) | ((with_reducible apply blockK_n)) | ((with_reducible apply blockK_r)) | ((with_reducible apply blockK_hit); exact rfl) | ((with_reducible apply blockK_miss); exact rfl) | ((with_reducible apply roundK_e)) | ((with_reducible apply roundK_r)) | ((with_reducible apply joinK_e)) | ((with_reducible apply joinK_r)))
  repeat' ((first | (((with_reducible apply RS.splitD); exact rfl; exact rfl) <;> intro _) | ((((with_reducible apply RS.splitG); exact rfl; exact rfl) <;> intro _) <;> (fail_if_success (exact absurd ‹true = false› (by decide))) <;> (fail_if_success (exact absurd ‹false = true› (by decide)))) | (((with_reducible apply W.condD); exact rfl) <;> intro _) | ((((with_reducible apply W.cond); exact rfl) <;> intro _) <;> (fail_if_success (exact absurd ‹true = false› (by decide))) <;> (fail_if_success (exact absurd ‹false = true› (by decide))))) <;> repeat (first | ((with_reducible apply RS.sliceStr); exact rfl; exact rfl; exact rfl; (first | exact ⟨_, _, rfl, rfl⟩ | exact rfl); (first | exact ⟨_, _, rfl, rfl⟩ | exact rfl); omega; omega) | ((with_reducible apply RS.move); exact rfl; exact rfl; exact rfl) | ((with_reducible apply RS.assign); exact rfl; exact rfl; exact rfl) | ((with_reducible apply RS.pickT); exact rfl; exact rfl; exact rfl; exact rfl) | ((with_reducible apply RS.pickF); exact rfl; exact rfl; exact rfl; exact rfl) | ((with_reducible apply RS.cmpT); exact rfl; exact rfl; exact rfl; exact rfl; (simp only [cmpP]; omega)) | ((with_reducible apply RS.cmpF); exact rfl; exact rfl; exact rfl; exact rfl; (simp only [cmpN]; omega)) | ((with_reducible apply RS.cmpC); exact rfl; exact rfl; exact rfl; exact rfl; exact rfl) | ((with_reducible apply RS.cmpNat); exact rfl; exact rfl; exact rfl; exact rfl; exact rfl) | ((with_reducible apply RS.add3); exact rfl; exact rfl; exact rfl; exact rfl; omega) | ((with_reducible apply RS.add1); exact rfl; exact rfl; exact rfl; exact rfl; omega) | ((with_reducible apply RS.add2); exact rfl; exact rfl; exact rfl; exact rfl; omega) | ((with_reducible apply RS.add4); exact rfl; exact rfl; exact rfl; exact rfl; omega) | ((with_reducible apply RS.sub1); exact rfl; exact rfl; exact rfl; exact rfl; omega) | ((with_reducible apply RS.addNat); exact rfl; exact rfl; exact rfl; exact rfl; omega) | ((with_reducible apply RS.subNat); exact rfl; exact rfl; exact rfl; exact rfl; omega) | ((with_reducible apply RS.addU); exact rfl; exact rfl; exact rfl; exact rfl; (first | omega | assumption)) | ((with_reducible apply RS.subUM); exact rfl; exact rfl; exact rfl; exact rfl; omega) | ((with_reducible apply RS.subU); exact rfl; exact rfl; exact rfl; exact rfl; omega) | ((with_reducible apply RS.mulU); exact rfl; exact rfl; exact rfl; exact rfl; (first | omega | assumption)) | ((with_reducible apply RS.quoU); exact rfl; exact rfl; exact rfl; exact rfl; omega) | ((with_reducible apply RS.binFit); exact rfl; exact rfl; exact rfl; exact rfl; exact rfl; omega) | ((with_reducible apply RS.bin); exact rfl; exact rfl; exact rfl; exact rfl; exact rfl) | ((with_reducible apply RS.binStr); exact rfl; exact rfl; exact rfl; exact rfl; exact rfl) | ((with_reducible apply RS.lenStr); exact rfl; exact rfl; exact rfl) | ((with_reducible apply RS.lenSl); exact rfl; exact rfl; exact rfl) | ((with_reducible apply RS.indexStr); exact rfl; exact rfl; exact rfl; exact rfl; exact rfl; omega) | ((with_reducible apply RS.not); exact rfl; exact rfl; exact rfl) | ((with_reducible apply RS.convI); exact rfl; exact rfl; exact rfl) | ((with_reducible apply RS.extract); exact rfl; exact rfl; exact rfl; exact rfl) | ((with_reducible apply RS.fieldAddr); exact rfl; exact rfl; exact rfl) | ((with_reducible apply RS.load1); exact rfl; exact rfl; exact rfl; exact rfl; exact rfl; exact rfl) | ((with_reducible apply RS.loadN); exact rfl; exact rfl; exact rfl; exact rfl; exact rfl; exact Nat.le_of_ble_eq_true rfl) | ((with_reducible apply RS.store); exact rfl; exact rfl; exact rfl; exact rfl; exact rfl; exact Nat.le_of_ble_eq_true rfl; exact rfl; exact rfl; exact rfl) | ((with_reducible apply RS.alloc); exact rfl; exact rfl) | ((with_reducible apply RS.box); exact rfl; exact rfl; exact rfl) | ((with_reducible apply RS.build); exact rfl; exact rfl; exact rfl; exact rfl) | ((with_reducible apply RS.skip); exact rfl; exact rfl) | ((with_reducible apply RS.nil); exact mixed; kernel_rfl) | ((with_reducible apply W.seq)) | ((with_reducible apply W.reg); kernel_rfl) | ((with_reducible apply W.block)) | ((with_reducible apply W.exit)) | ((with_reducible apply W.ret)) | ((with_reducible apply W.skip)) | ((with_reducible apply W.label)) | ((with_reducible apply W.condT); kernel_rfl; exact rfl) | ((with_reducible apply W.condF); kernel_rfl; exact rfl) | ((with_reducible apply thenK_n)) | ((with_reducible apply thenK_e)) | ((with_reducible apply thenK_r)) | ((with_reducible apply blockK_n)) | ((with_reducible apply blockK_r)) | ((with_reducible apply blockK_hit); exact rfl) | ((with_reducible apply blockK_miss); exact rfl) | ((with_reducible apply roundK_e)) | ((with_reducible apply roundK_r)) | ((with_reducible apply joinK_e)) | ((with_reducible apply joinK_r))))
  all_goals refine endsK_ret _ (.cons (.tmp rfl) .nil) ⟨rfl, ?_⟩
  all_goals simp only [resultOf, Value.bool.injEq, prefix_take]
  · rename_i hp
    have h1 : p.data.toList.length = p.size := by simp
    have h2 : s.data.toList.length = s.size := by simp
    rw [h1, h2, decide_eq_true hp]
    rw [Lib.extract_data]; simp
  · rename_i hp
    have h1 : p.data.toList.length = p.size := by simp
    have h2 : s.data.toList.length = s.size := by simp
    rw [h1, h2, decide_eq_false hp]; rfl
theorem hasPrefix_tf (s p : ByteArray) (h : Hp) : TF Tryd.prog 16 ⟨[.string s, .string p]⟩ h (.bool (Lib.hasPrefix s.data.toList p.data.toList)) h := by
  refine TF.still (fn := Tryd.f16) (c := (Tryd.f16.body.getD .skip)) Tryd.func16 (by kernel_rfl) Tryd.ntmps16 (by kernel_rfl) (by simp) ?_
  conv => arg 2; whnf
  repeat (first | ((with_reducible apply RS.sliceStr); exact rfl; exact rfl; exact rfl; (first | exact ⟨_, _, rfl, rfl⟩ | exact rfl); (first | exact ⟨_, _, rfl, rfl⟩ | exact rfl); omega; omega) | ((with_reducible apply RS.callP); exact rfl; exact rfl; exact rfl; exact fun H => (lite_tf _ _ H); exact Nm_free (by simp)) | ((with_reducible apply RS.move); exact rfl; exact rfl; exact rfl) | ((with_reducible apply RS.assign); exact rfl; exact rfl; exact rfl) | ((with_reducible apply RS.pickT); exact rfl; exact rfl; exact rfl; exact rfl) | ((with_reducible apply RS.pickF); exact rfl; exact rfl; exact rfl; exact rfl) | ((with_reducible apply RS.cmpT); exact rfl; exact rfl; exact rfl; exact rfl; (simp only [cmpP]; omega)) | ((with_reducible apply RS.cmpF); exact rfl; exact rfl; exact rfl; exact rfl; (simp only [cmpN]; omega)) | ((with_reducible apply RS.cmpC); exact rfl; exact rfl; exact rfl; exact rfl; exact rfl) | ((with_reducible apply RS.cmpNat); exact rfl; exact rfl; exact rfl; exact rfl; exact rfl) | ((with_reducible apply RS.add3); exact rfl; exact rfl; exact rfl; exact rfl; omega) | ((with_reducible apply RS.add1); exact rfl; exact rfl; exact rfl; exact rfl; omega) | ((with_reducible apply RS.add2); exact rfl; exact rfl; exact rfl; exact rfl; omega) | ((with_reducible apply RS.add4); exact rfl; exact rfl; exact rfl; exact rfl; omega) | ((with_reducible apply RS.sub1); exact rfl; exact rfl; exact rfl; exact rfl; omega) | ((with_reducible apply RS.addNat); exact rfl; exact rfl; exact rfl; exact rfl; omega) | ((with_reducible apply RS.subNat); exact rfl; exact rfl; exact rfl; exact rfl; omega) | ((with_reducible apply RS.addU); exact rfl; exact rfl; exact rfl; exact rfl; (first | omega | assumption)) | ((with_reducible apply RS.subUM); exact rfl; exact rfl; exact rfl; exact rfl; omega) | ((with_reducible apply RS.subU); exact rfl; exact rfl; exact rfl; exact rfl; omega) | ((with_reducible apply RS.mulU); exact rfl; exact rfl; exact rfl; exact rfl; (first | omega | assumption)) | ((with_reducible apply RS.quoU); exact rfl; exact rfl; exact rfl; exact rfl; omega) | ((with_reducible apply RS.binFit); exact rfl; exact rfl; exact rfl; exact rfl; exact rfl; omega) | ((with_reducible apply RS.bin); exact rfl; exact rfl; exact rfl; exact rfl; exact rfl) | ((with_reducible apply RS.binStr); exact rfl; exact rfl; exact rfl; exact rfl; exact rfl) | ((with_reducible apply RS.lenStr); exact rfl; exact rfl; exact rfl) | ((with_reducible apply RS.lenSl); exact rfl; exact rfl; exact rfl) | ((with_reducible apply RS.indexStr); exact rfl; exact rfl; exact rfl; exact rfl; exact rfl; omega) | ((with_reducible apply RS.not); exact rfl; exact rfl; exact rfl) | ((with_reducible apply RS.convI); exact rfl; exact rfl; exact rfl) | ((with_reducible apply RS.extract); exact rfl; exact rfl; exact rfl; exact rfl) | ((with_reducible apply RS.fieldAddr); exact rfl; exact rfl; exact rfl) | ((with_reducible apply RS.load1); exact rfl; exact rfl; exact rfl; exact rfl; exact rfl; exact rfl) | ((with_reducible apply RS.loadN); exact rfl; exact rfl; exact rfl; exact rfl; exact rfl; exact Nat.le_of_ble_eq_true rfl) | ((with_reducible apply RS.store); exact rfl; exact rfl; exact rfl; exact rfl; exact rfl; exact Nat.le_of_ble_eq_true rfl; exact rfl; exact rfl; exact rfl) | ((with_reducible apply RS.alloc); exact rfl; exact rfl) | ((with_reducible apply RS.box); exact rfl; exact rfl; exact rfl) | ((with_reducible apply RS.build); exact rfl; exact rfl; exact rfl; exact rfl) | ((with_reducible apply RS.skip); exact rfl; exact rfl) | ((with_reducible apply RS.nil); exact mixed; kernel_rfl) | ((with_reducible apply W.seq)) | ((with_reducible apply W.reg); kernel_rfl) | ((with_reducible apply W.block)) | ((with_reducible apply W.exit)) | ((with_reducible apply W.ret)) | ((with_reducible apply W.skip)) | ((with_reducible apply W.label)) | ((with_reducible apply W.condT); kernel_rfl; exact rfl) | ((with_reducible apply W.condF); kernel_rfl; exact rfl) | ((with_reducible apply thenK_n)) | ((with_reducible apply thenK_e)) | ((with_reducible apply thenK_r)) | ((with_reducible apply blockK_n)) | ((with_reducible apply blockK_r)) | ((with_reducible apply blockK_hit); exact rfl) | ((with_reducible apply blockK_miss); exact rfl) | ((with_reducible apply roundK_e)) | ((with_reducible apply roundK_r)) | ((with_reducible apply joinK_e)) | ((with_reducible apply joinK_r)))
  all_goals refine endsK_ret _ (.cons (.tmp rfl) .nil) ⟨rfl, rfl⟩
section
variable {P : Program} {ops : Array Oper} {draw : Bool} {rs : List Rk} {l : List Oper} {fl : List (Nat × Value)} {nt : Nat} {h : SH} {K : Fr → SH → Prop} {d : Tmp} {ty : TypeId} {pos : String} {af : Array Edge} {gd : Option (Nat × Bool)}
theorem RS.indexChr {t : TypeId} {x y : Operand} {s : ByteArray} {k : IntKind} {i : Int} {n : Nat} [hu : TyU P t .string] (hw : wantB ops ⟨some d, .index t x y, ty, pos, af, gd⟩ ⟨fl, nt⟩ = some true) (hd : Nat.blt d nt = true) (hx : Fr.ev ⟨fl, nt⟩ x = some (.string s)) (hy : Fr.ev ⟨fl, nt⟩ y = some (.int k i)) (hi : i = (n : Int)) (hn : n < s.size)
    (hk : RS P ops draw (recP h.k false [] (some []) :: rs) l ⟨(d, .int .u8 (chr s n)) :: fl, nt⟩ h K) : RS P ops draw rs (⟨some d, .index t x y, ty, pos, af, gd⟩ :: l) ⟨fl, nt⟩ h K := by
  rw [chr_lt hn] at hk; exact RS.indexStr hw hd hx hy hi hn hk
end
def tokV (t : TokS) : Value := .agg ⟨[.int .i64 t.kind, .string t.text, .int .i64 t.pos, .int .u64 t.value, .bool t.uns, .bool t.long]⟩
theorem value_tn (c : Int) (h0 : 0 ≤ c) (h1 : c ≤ 255) (h : Hp) : TF Tryd.prog 33 ⟨[.int .u8 c]⟩ h (.int .u64 (valN c : Int)) h := by rw [← valN_cast]; exact value_tf c h0 h1 h
theorem number_tf (s : ByteArray) (p : Nat) (hp : p < s.size) (hs : s.size ≤ 1000000) (h : Hp) : TF Tryd.prog 22 ⟨[.string s, .int .i64 p]⟩ h (.tuple ⟨[tokV (numberS s p).1, .bool (numberS s p).2]⟩) h := by
  refine TF.still (fn := Tryd.f22) (c := (Tryd.f22.body.getD .skip)) Tryd.func22 (by kernel_rfl) Tryd.ntmps22 (by kernel_rfl) (by (simp [tokV])) ?_
  conv => arg 2; whnf
  repeat (first | ((with_reducible apply RS.sliceStr); exact rfl; exact rfl; exact rfl; (first | exact ⟨_, _, rfl, rfl⟩ | exact rfl); (first | exact ⟨_, _, rfl, rfl⟩ | exact rfl); omega; omega) | ((with_reducible apply RS.indexChr); exact rfl; exact rfl; exact rfl; exact rfl; exact rfl; omega) | ((with_reducible apply RS.callP); exact rfl; exact rfl; exact rfl; exact fun H => (hasPrefix_tf _ _ H); exact Nm_free (by simp)) | ((with_reducible apply RS.callP); exact rfl; exact rfl; exact rfl; exact fun H => (digit_tf _ H); exact Nm_free (by simp)) | ((with_reducible apply RS.callP); exact rfl; exact rfl; exact rfl; exact fun H => (letter_tf _ H); exact Nm_free (by simp)) | ((with_reducible apply RS.callP); exact rfl; exact rfl; exact rfl; exact fun H => (value_tn _ (chr_nn (by omega)) (chr_le _ _) H); exact Nm_free (by simp)) | ((with_reducible apply RS.move); exact rfl; exact rfl; exact rfl) | ((with_reducible apply RS.assign); exact rfl; exact rfl; exact rfl) | ((with_reducible apply RS.pickT); exact rfl; exact rfl; exact rfl; exact rfl) | ((with_reducible apply RS.pickF); exact rfl; exact rfl; exact rfl; exact rfl) | ((with_reducible apply RS.cmpT); exact rfl; exact rfl; exact rfl; exact rfl; (simp only [cmpP]; omega)) | ((with_reducible apply RS.cmpF); exact rfl; exact rfl; exact rfl; exact rfl; (simp only [cmpN]; omega)) | ((with_reducible apply RS.cmpC); exact rfl; exact rfl; exact rfl; exact rfl; exact rfl) | ((with_reducible apply RS.cmpNat); exact rfl; exact rfl; exact rfl; exact rfl; exact rfl) | ((with_reducible apply RS.add3); exact rfl; exact rfl; exact rfl; exact rfl; omega) | ((with_reducible apply RS.add1); exact rfl; exact rfl; exact rfl; exact rfl; omega) | ((with_reducible apply RS.add2); exact rfl; exact rfl; exact rfl; exact rfl; omega) | ((with_reducible apply RS.add4); exact rfl; exact rfl; exact rfl; exact rfl; omega) | ((with_reducible apply RS.sub1); exact rfl; exact rfl; exact rfl; exact rfl; omega) | ((with_reducible apply RS.addNat); exact rfl; exact rfl; exact rfl; exact rfl; omega) | ((with_reducible apply RS.subNat); exact rfl; exact rfl; exact rfl; exact rfl; omega) | ((with_reducible apply RS.addU); exact rfl; exact rfl; exact rfl; exact rfl; (first | omega | assumption)) | ((with_reducible apply RS.subUM); exact rfl; exact rfl; exact rfl; exact rfl; omega) | ((with_reducible apply RS.subU); exact rfl; exact rfl; exact rfl; exact rfl; omega) | ((with_reducible apply RS.mulU); exact rfl; exact rfl; exact rfl; exact rfl; (first | omega | assumption)) | ((with_reducible apply RS.quoU); exact rfl; exact rfl; exact rfl; exact rfl; omega) | ((with_reducible apply RS.binFit); exact rfl; exact rfl; exact rfl; exact rfl; exact rfl; omega) | ((with_reducible apply RS.bin); exact rfl; exact rfl; exact rfl; exact rfl; exact rfl) | ((with_reducible apply RS.binStr); exact rfl; exact rfl; exact rfl; exact rfl; exact rfl) | ((with_reducible apply RS.lenStr); exact rfl; exact rfl; exact rfl) | ((with_reducible apply RS.lenSl); exact rfl; exact rfl; exact rfl) | ((with_reducible apply RS.indexStr); exact rfl; exact rfl; exact rfl; exact rfl; exact rfl; omega) | ((with_reducible apply RS.not); exact rfl; exact rfl; exact rfl) | ((with_reducible apply RS.convI); exact rfl; exact rfl; exact rfl) | ((with_reducible apply RS.extract); exact rfl; exact rfl; exact rfl; exact rfl) | ((with_reducible apply RS.fieldAddr); exact rfl; exact rfl; exact rfl) | ((with_reducible apply RS.load1); exact rfl; exact rfl; exact rfl; exact rfl; exact rfl; exact rfl) | ((with_reducible apply RS.loadN); exact rfl; exact rfl; exact rfl; exact rfl; exact rfl; exact Nat.le_of_ble_eq_true rfl) | ((with_reducible apply RS.store); exact rfl; exact rfl; exact rfl; exact rfl; exact rfl; exact Nat.le_of_ble_eq_true rfl; exact rfl; exact rfl; exact rfl) | ((with_reducible apply RS.alloc); exact rfl; exact rfl) | ((with_reducible apply RS.box); exact rfl; exact rfl; exact rfl) | ((with_reducible apply RS.build); exact rfl; exact rfl; exact rfl; exact rfl) | ((with_reducible apply RS.skip); exact rfl; exact rfl) | ((with_reducible apply RS.nil); exact mixed; kernel_rfl) | ((with_reducible apply W.seq)) | ((with_reducible apply W.reg); kernel_rfl) | ((with_reducible apply W.block)) | ((with_reducible apply W.exit)) | ((with_reducible apply W.ret)) | ((with_reducible apply W.skip)) | ((with_reducible apply W.label)) | ((with_reducible apply W.condT); kernel_rfl; exact rfl) | ((with_reducible apply W.condF); kernel_rfl; exact rfl) | ((with_reducible apply thenK_n)) | ((with_reducible apply thenK_e)) | ((with_reducible apply thenK_r)) | ((with_reducible apply blockK_n)) | ((with_reducible apply blockK_r)) | ((with_reducible apply blockK_hit); exact rfl) | ((with_reducible apply blockK_miss); exact rfl) | ((with_reducible apply roundK_e)) | ((with_reducible apply roundK_r)) | ((with_reducible apply joinK_e)) | ((with_reducible apply joinK_r)))
  refine W.joinT (X := Nat × Nat) (fun π x => [(0, .string s), (1, .int .i64 p), (4, .pointer (some ⟨π 0, 0, none⟩)), (6, .pointer (some ⟨π 1, 0, none⟩)), (7, .int .i64 x.2), (8, .int .u64 x.1)]) (fun _ => h) (fun π x => [(0, some ⟨⟨[.int .i64 0, .string ⟨#[]⟩, .int .i64 0, .int .u64 0, .bool false, .bool false]⟩, 36⟩), (1, some ⟨⟨[.int .i64 3, .string ⟨#[]⟩, .int .i64 p, .int .u64 0, .bool false, .bool false]⟩, 36⟩)]) (fun x => numberS s p = numberR s p x.1 x.2 ∧ p ≤ x.2 ∧ x.2 ≤ s.size ∧ (x.1 = 10 ∨ x.1 = 16)) 2 ?_ ?_
  · with_reducible apply W.cond
    exact rfl
    · intro hx
      rw [hasP2 (by omega)] at hx
      repeat (first | ((with_reducible apply RS.sliceStr); exact rfl; exact rfl; exact rfl; (first | exact ⟨_, _, rfl, rfl⟩ | exact rfl); (first | exact ⟨_, _, rfl, rfl⟩ | exact rfl); omega; omega) | ((with_reducible apply RS.indexChr); exact rfl; exact rfl; exact rfl; exact rfl; exact rfl; omega) | ((with_reducible apply RS.callP); exact rfl; exact rfl; exact rfl; exact fun H => (hasPrefix_tf _ _ H); exact Nm_free (by simp)) | ((with_reducible apply RS.callP); exact rfl; exact rfl; exact rfl; exact fun H => (digit_tf _ H); exact Nm_free (by simp)) | ((with_reducible apply RS.callP); exact rfl; exact rfl; exact rfl; exact fun H => (letter_tf _ H); exact Nm_free (by simp)) | ((with_reducible apply RS.callP); exact rfl; exact rfl; exact rfl; exact fun H => (value_tn _ (chr_nn (by omega)) (chr_le _ _) H); exact Nm_free (by simp)) | ((with_reducible apply RS.move); exact rfl; exact rfl; exact rfl) | ((with_reducible apply RS.assign); exact rfl; exact rfl; exact rfl) | ((with_reducible apply RS.pickT); exact rfl; exact rfl; exact rfl; exact rfl) | ((with_reducible apply RS.pickF); exact rfl; exact rfl; exact rfl; exact rfl) | ((with_reducible apply RS.cmpT); exact rfl; exact rfl; exact rfl; exact rfl; (simp only [cmpP]; omega)) | ((with_reducible apply RS.cmpF); exact rfl; exact rfl; exact rfl; exact rfl; (simp only [cmpN]; omega)) | ((with_reducible apply RS.cmpC); exact rfl; exact rfl; exact rfl; exact rfl; exact rfl) | ((with_reducible apply RS.cmpNat); exact rfl; exact rfl; exact rfl; exact rfl; exact rfl) | ((with_reducible apply RS.add3); exact rfl; exact rfl; exact rfl; exact rfl; omega) | ((with_reducible apply RS.add1); exact rfl; exact rfl; exact rfl; exact rfl; omega) | ((with_reducible apply RS.add2); exact rfl; exact rfl; exact rfl; exact rfl; omega) | ((with_reducible apply RS.add4); exact rfl; exact rfl; exact rfl; exact rfl; omega) | ((with_reducible apply RS.sub1); exact rfl; exact rfl; exact rfl; exact rfl; omega) | ((with_reducible apply RS.addNat); exact rfl; exact rfl; exact rfl; exact rfl; omega) | ((with_reducible apply RS.subNat); exact rfl; exact rfl; exact rfl; exact rfl; omega) | ((with_reducible apply RS.addU); exact rfl; exact rfl; exact rfl; exact rfl; (first | omega | assumption)) | ((with_reducible apply RS.subUM); exact rfl; exact rfl; exact rfl; exact rfl; omega) | ((with_reducible apply RS.subU); exact rfl; exact rfl; exact rfl; exact rfl; omega) | ((with_reducible apply RS.mulU); exact rfl; exact rfl; exact rfl; exact rfl; (first | omega | assumption)) | ((with_reducible apply RS.quoU); exact rfl; exact rfl; exact rfl; exact rfl; omega) | ((with_reducible apply RS.binFit); exact rfl; exact rfl; exact rfl; exact rfl; exact rfl; omega) | ((with_reducible apply RS.bin); exact rfl; exact rfl; exact rfl; exact rfl; exact rfl) | ((with_reducible apply RS.binStr); exact rfl; exact rfl; exact rfl; exact rfl; exact rfl) | ((with_reducible apply RS.lenStr); exact rfl; exact rfl; exact rfl) | ((with_reducible apply RS.lenSl); exact rfl; exact rfl; exact rfl) | ((with_reducible apply RS.indexStr); exact rfl; exact rfl; exact rfl; exact rfl; exact rfl; omega) | ((with_reducible apply RS.not); exact rfl; exact rfl; exact rfl) | ((with_reducible apply RS.convI); exact rfl; exact rfl; exact rfl) | ((with_reducible apply RS.extract); exact rfl; exact rfl; exact rfl; exact rfl) | ((with_reducible apply RS.fieldAddr); exact rfl; exact rfl; exact rfl) | ((with_reducible apply RS.load1); exact rfl; exact rfl; exact rfl; exact rfl; exact rfl; exact rfl) | ((with_reducible apply RS.loadN); exact rfl; exact rfl; exact rfl; exact rfl; exact rfl; exact Nat.le_of_ble_eq_true rfl) | ((with_reducible apply RS.store); exact rfl; exact rfl; exact rfl; exact rfl; exact rfl; exact Nat.le_of_ble_eq_true rfl; exact rfl; exact rfl; exact rfl) | ((with_reducible apply RS.alloc); exact rfl; exact rfl) | ((with_reducible apply RS.box); exact rfl; exact rfl; exact rfl) | ((with_reducible apply RS.build); exact rfl; exact rfl; exact rfl; exact rfl) | ((with_reducible apply RS.skip); exact rfl; exact rfl) | ((with_reducible apply RS.nil); exact mixed; kernel_rfl) | ((with_reducible apply W.seq)) | ((with_reducible apply W.reg); kernel_rfl) | ((with_reducible apply W.block)) | ((with_reducible apply W.exit)) | ((with_reducible apply W.ret)) | ((with_reducible apply W.skip)) | ((with_reducible apply W.label)) | ((with_reducible apply W.condT); kernel_rfl; exact rfl) | ((with_reducible apply W.condF); kernel_rfl; exact rfl) | ((with_reducible apply thenK_n)) | ((with_reducible apply thenK_e)) | ((with_reducible apply thenK_r)) | ((with_reducible apply blockK_n)) | ((with_reducible apply blockK_r)) | ((with_reducible apply blockK_hit); exact rfl) | ((with_reducible apply blockK_miss); exact rfl) | ((with_reducible apply roundK_e)) | ((with_reducible apply roundK_r)) | ((with_reducible apply joinK_e)) | ((with_reducible apply joinK_r)))
      have hx' : numHex s p = true := hx
      have hlt : p + 1 < s.size := by
        rcases Nat.lt_or_ge (p + 1) s.size with h1 | h1
        · exact h1
        · simp only [Bool.and_eq_true, beq_iff_eq] at hx
          rw [chr_ge (i := p + 1) (by omega)] at hx
          exact absurd hx.2 (by decide)
      exact joinK_n (16, p + 2) [0, 1] rfl rfl ⟨by unfold numberS; rw [if_pos hx'], by simp only; omega, by simp only; omega, .inr rfl⟩ (by (refine FitL.mk ?_ ?_ ?_ ?_ <;> (repeat' (first | exact trivial | exact rfl | apply And.intro)); done))
    · intro hx
      rw [hasP2 (by omega)] at hx
      repeat (first | ((with_reducible apply RS.sliceStr); exact rfl; exact rfl; exact rfl; (first | exact ⟨_, _, rfl, rfl⟩ | exact rfl); (first | exact ⟨_, _, rfl, rfl⟩ | exact rfl); omega; omega) | ((with_reducible apply RS.indexChr); exact rfl; exact rfl; exact rfl; exact rfl; exact rfl; omega) | ((with_reducible apply RS.callP); exact rfl; exact rfl; exact rfl; exact fun H => (hasPrefix_tf _ _ H); exact Nm_free (by simp)) | ((with_reducible apply RS.callP); exact rfl; exact rfl; exact rfl; exact fun H => (digit_tf _ H); exact Nm_free (by simp)) | ((with_reducible apply RS.callP); exact rfl; exact rfl; exact rfl; exact fun H => (letter_tf _ H); exact Nm_free (by simp)) | ((with_reducible apply RS.callP); exact rfl; exact rfl; exact rfl; exact fun H => (value_tn _ (chr_nn (by omega)) (chr_le _ _) H); exact Nm_free (by simp)) | ((with_reducible apply RS.move); exact rfl; exact rfl; exact rfl) | ((with_reducible apply RS.assign); exact rfl; exact rfl; exact rfl) | ((with_reducible apply RS.pickT); exact rfl; exact rfl; exact rfl; exact rfl) | ((with_reducible apply RS.pickF); exact rfl; exact rfl; exact rfl; exact rfl) | ((with_reducible apply RS.cmpT); exact rfl; exact rfl; exact rfl; exact rfl; (simp only [cmpP]; omega)) | ((with_reducible apply RS.cmpF); exact rfl; exact rfl; exact rfl; exact rfl; (simp only [cmpN]; omega)) | ((with_reducible apply RS.cmpC); exact rfl; exact rfl; exact rfl; exact rfl; exact rfl) | ((with_reducible apply RS.cmpNat); exact rfl; exact rfl; exact rfl; exact rfl; exact rfl) | ((with_reducible apply RS.add3); exact rfl; exact rfl; exact rfl; exact rfl; omega) | ((with_reducible apply RS.add1); exact rfl; exact rfl; exact rfl; exact rfl; omega) | ((with_reducible apply RS.add2); exact rfl; exact rfl; exact rfl; exact rfl; omega) | ((with_reducible apply RS.add4); exact rfl; exact rfl; exact rfl; exact rfl; omega) | ((with_reducible apply RS.sub1); exact rfl; exact rfl; exact rfl; exact rfl; omega) | ((with_reducible apply RS.addNat); exact rfl; exact rfl; exact rfl; exact rfl; omega) | ((with_reducible apply RS.subNat); exact rfl; exact rfl; exact rfl; exact rfl; omega) | ((with_reducible apply RS.addU); exact rfl; exact rfl; exact rfl; exact rfl; (first | omega | assumption)) | ((with_reducible apply RS.subUM); exact rfl; exact rfl; exact rfl; exact rfl; omega) | ((with_reducible apply RS.subU); exact rfl; exact rfl; exact rfl; exact rfl; omega) | ((with_reducible apply RS.mulU); exact rfl; exact rfl; exact rfl; exact rfl; (first | omega | assumption)) | ((with_reducible apply RS.quoU); exact rfl; exact rfl; exact rfl; exact rfl; omega) | ((with_reducible apply RS.binFit); exact rfl; exact rfl; exact rfl; exact rfl; exact rfl; omega) | ((with_reducible apply RS.bin); exact rfl; exact rfl; exact rfl; exact rfl; exact rfl) | ((with_reducible apply RS.binStr); exact rfl; exact rfl; exact rfl; exact rfl; exact rfl) | ((with_reducible apply RS.lenStr); exact rfl; exact rfl; exact rfl) | ((with_reducible apply RS.lenSl); exact rfl; exact rfl; exact rfl) | ((with_reducible apply RS.indexStr); exact rfl; exact rfl; exact rfl; exact rfl; exact rfl; omega) | ((with_reducible apply RS.not); exact rfl; exact rfl; exact rfl) | ((with_reducible apply RS.convI); exact rfl; exact rfl; exact rfl) | ((with_reducible apply RS.extract); exact rfl; exact rfl; exact rfl; exact rfl) | ((with_reducible apply RS.fieldAddr); exact rfl; exact rfl; exact rfl) | ((with_reducible apply RS.load1); exact rfl; exact rfl; exact rfl; exact rfl; exact rfl; exact rfl) | ((with_reducible apply RS.loadN); exact rfl; exact rfl; exact rfl; exact rfl; exact rfl; exact Nat.le_of_ble_eq_true rfl) | ((with_reducible apply RS.store); exact rfl; exact rfl; exact rfl; exact rfl; exact rfl; exact Nat.le_of_ble_eq_true rfl; exact rfl; exact rfl; exact rfl) | ((with_reducible apply RS.alloc); exact rfl; exact rfl) | ((with_reducible apply RS.box); exact rfl; exact rfl; exact rfl) | ((with_reducible apply RS.build); exact rfl; exact rfl; exact rfl; exact rfl) | ((with_reducible apply RS.skip); exact rfl; exact rfl) | ((with_reducible apply RS.nil); exact mixed; kernel_rfl) | ((with_reducible apply W.seq)) | ((with_reducible apply W.reg); kernel_rfl) | ((with_reducible apply W.block)) | ((with_reducible apply W.exit)) | ((with_reducible apply W.ret)) | ((with_reducible apply W.skip)) | ((with_reducible apply W.label)) | ((with_reducible apply W.condT); kernel_rfl; exact rfl) | ((with_reducible apply W.condF); kernel_rfl; exact rfl) | ((with_reducible apply thenK_n)) | ((with_reducible apply thenK_e)) | ((with_reducible apply thenK_r)) | ((with_reducible apply blockK_n)) | ((with_reducible apply blockK_r)) | ((with_reducible apply blockK_hit); exact rfl) | ((with_reducible apply blockK_miss); exact rfl) | ((with_reducible apply roundK_e)) | ((with_reducible apply roundK_r)) | ((with_reducible apply joinK_e)) | ((with_reducible apply joinK_r)))
      have hx' : ¬ numHex s p = true := by unfold numHex; intro hc; rw [show (chr s p == 48 && chr s (p + 1) == 120) = false from hx] at hc; cases hc
      exact joinK_n (10, p) [0, 1] rfl rfl ⟨by unfold numberS; rw [if_neg hx'], by simp only; omega, by simp only; omega, .inl rfl⟩ (by (refine FitL.mk ?_ ?_ ?_ ?_ <;> (repeat' (first | exact trivial | exact rfl | apply And.intro)); done))
  · intro π x hI
    obtain ⟨base, start⟩ := x
    obtain ⟨h1, h2, h3, h4⟩ := hI
    simp only at h1 h2 h3 h4
    dsimp only
    repeat (first | ((with_reducible apply RS.sliceStr); exact rfl; exact rfl; exact rfl; (first | exact ⟨_, _, rfl, rfl⟩ | exact rfl); (first | exact ⟨_, _, rfl, rfl⟩ | exact rfl); omega; omega) | ((with_reducible apply RS.indexChr); exact rfl; exact rfl; exact rfl; exact rfl; exact rfl; omega) | ((with_reducible apply RS.callP); exact rfl; exact rfl; exact rfl; exact fun H => (hasPrefix_tf _ _ H); exact Nm_free (by simp)) | ((with_reducible apply RS.callP); exact rfl; exact rfl; exact rfl; exact fun H => (digit_tf _ H); exact Nm_free (by simp)) | ((with_reducible apply RS.callP); exact rfl; exact rfl; exact rfl; exact fun H => (letter_tf _ H); exact Nm_free (by simp)) | ((with_reducible apply RS.callP); exact rfl; exact rfl; exact rfl; exact fun H => (value_tn _ (chr_nn (by omega)) (chr_le _ _) H); exact Nm_free (by simp)) | ((with_reducible apply RS.move); exact rfl; exact rfl; exact rfl) | ((with_reducible apply RS.assign); exact rfl; exact rfl; exact rfl) | ((with_reducible apply RS.pickT); exact rfl; exact rfl; exact rfl; exact rfl) | ((with_reducible apply RS.pickF); exact rfl; exact rfl; exact rfl; exact rfl) | ((with_reducible apply RS.cmpT); exact rfl; exact rfl; exact rfl; exact rfl; (simp only [cmpP]; omega)) | ((with_reducible apply RS.cmpF); exact rfl; exact rfl; exact rfl; exact rfl; (simp only [cmpN]; omega)) | ((with_reducible apply RS.cmpC); exact rfl; exact rfl; exact rfl; exact rfl; exact rfl) | ((with_reducible apply RS.cmpNat); exact rfl; exact rfl; exact rfl; exact rfl; exact rfl) | ((with_reducible apply RS.add3); exact rfl; exact rfl; exact rfl; exact rfl; omega) | ((with_reducible apply RS.add1); exact rfl; exact rfl; exact rfl; exact rfl; omega) | ((with_reducible apply RS.add2); exact rfl; exact rfl; exact rfl; exact rfl; omega) | ((with_reducible apply RS.add4); exact rfl; exact rfl; exact rfl; exact rfl; omega) | ((with_reducible apply RS.sub1); exact rfl; exact rfl; exact rfl; exact rfl; omega) | ((with_reducible apply RS.addNat); exact rfl; exact rfl; exact rfl; exact rfl; omega) | ((with_reducible apply RS.subNat); exact rfl; exact rfl; exact rfl; exact rfl; omega) | ((with_reducible apply RS.addU); exact rfl; exact rfl; exact rfl; exact rfl; (first | omega | assumption)) | ((with_reducible apply RS.subUM); exact rfl; exact rfl; exact rfl; exact rfl; omega) | ((with_reducible apply RS.subU); exact rfl; exact rfl; exact rfl; exact rfl; omega) | ((with_reducible apply RS.mulU); exact rfl; exact rfl; exact rfl; exact rfl; (first | omega | assumption)) | ((with_reducible apply RS.quoU); exact rfl; exact rfl; exact rfl; exact rfl; omega) | ((with_reducible apply RS.binFit); exact rfl; exact rfl; exact rfl; exact rfl; exact rfl; omega) | ((with_reducible apply RS.bin); exact rfl; exact rfl; exact rfl; exact rfl; exact rfl) | ((with_reducible apply RS.binStr); exact rfl; exact rfl; exact rfl; exact rfl; exact rfl) | ((with_reducible apply RS.lenStr); exact rfl; exact rfl; exact rfl) | ((with_reducible apply RS.lenSl); exact rfl; exact rfl; exact rfl) | ((with_reducible apply RS.indexStr); exact rfl; exact rfl; exact rfl; exact rfl; exact rfl; omega) | ((with_reducible apply RS.not); exact rfl; exact rfl; exact rfl) | ((with_reducible apply RS.convI); exact rfl; exact rfl; exact rfl) | ((with_reducible apply RS.extract); exact rfl; exact rfl; exact rfl; exact rfl) | ((with_reducible apply RS.fieldAddr); exact rfl; exact rfl; exact rfl) | ((with_reducible apply RS.load1); exact rfl; exact rfl; exact rfl; exact rfl; exact rfl; exact rfl) | ((with_reducible apply RS.loadN); exact rfl; exact rfl; exact rfl; exact rfl; exact rfl; exact Nat.le_of_ble_eq_true rfl) | ((with_reducible apply RS.store); exact rfl; exact rfl; exact rfl; exact rfl; exact rfl; exact Nat.le_of_ble_eq_true rfl; exact rfl; exact rfl; exact rfl) | ((with_reducible apply RS.alloc); exact rfl; exact rfl) | ((with_reducible apply RS.box); exact rfl; exact rfl; exact rfl) | ((with_reducible apply RS.build); exact rfl; exact rfl; exact rfl; exact rfl) | ((with_reducible apply RS.skip); exact rfl; exact rfl) | ((with_reducible apply RS.nil); exact mixed; kernel_rfl) | ((with_reducible apply W.seq)) | ((with_reducible apply W.reg); kernel_rfl) | ((with_reducible apply W.block)) | ((with_reducible apply W.exit)) | ((with_reducible apply W.ret)) | ((with_reducible apply W.skip)) | ((with_reducible apply W.label)) | ((with_reducible apply W.condT); kernel_rfl; exact rfl) | ((with_reducible apply W.condF); kernel_rfl; exact rfl) | ((with_reducible apply thenK_n)) | ((with_reducible apply thenK_e)) | ((with_reducible apply thenK_r)) | ((with_reducible apply blockK_n)) | ((with_reducible apply blockK_r)) | ((with_reducible apply blockK_hit); exact rfl) | ((with_reducible apply blockK_miss); exact rfl) | ((with_reducible apply roundK_e)) | ((with_reducible apply roundK_r)) | ((with_reducible apply joinK_e)) | ((with_reducible apply joinK_r)))
    refine W.joinB (X := Nat × Nat) (fun π x => [(0, .string s), (1, .int .i64 p), (4, .pointer (some ⟨π 0, 0, none⟩)), (6, .pointer (some ⟨π 1, 0, none⟩)), (7, .int .i64 x.2), (9, .int .i64 start)]) (fun _ => h) (fun π x => [(0, some ⟨⟨[.int .i64 0, .string ⟨#[]⟩, .int .i64 0, .int .u64 0, .bool false, .bool false]⟩, 36⟩), (1, some ⟨⟨[.int .i64 3, .string ⟨#[]⟩, .int .i64 p, .int .u64 x.1, .bool false, .bool false]⟩, 36⟩)]) (fun x => numL s base (s.size - start) start 0 = some x ∧ start ≤ x.2 ∧ x.2 ≤ s.size) 2 ?_ ?_
    · refine W.loop (X := Nat × Nat) (fun π x => [(0, .string s), (1, .int .i64 p), (4, .pointer (some ⟨π 0, 0, none⟩)), (6, .pointer (some ⟨π 1, 0, none⟩)), (7, .int .i64 x.2), (8, .int .u64 base), (9, .int .i64 start)]) (fun _ => h) (fun π x => [(0, some ⟨⟨[.int .i64 0, .string ⟨#[]⟩, .int .i64 0, .int .u64 0, .bool false, .bool false]⟩, 36⟩), (1, some ⟨⟨[.int .i64 3, .string ⟨#[]⟩, .int .i64 p, .int .u64 x.1, .bool false, .bool false]⟩, 36⟩)]) (fun x => numL s base (s.size - start) start 0 = numL s base (s.size - x.2) x.2 x.1 ∧ start ≤ x.2 ∧ x.2 ≤ s.size ∧ x.1 ≤ 18446744073709551615) (fun x => s.size - x.2) [0, 1] (0, start) ⟨rfl, by simp only; omega, by simp only; omega, by simp only; omega⟩ (by (refine FitL.mk ?_ ?_ ?_ ?_ <;> (repeat' (first | exact trivial | exact rfl | apply And.intro)); done)) ?_
      intro π x hI
      obtain ⟨v, k⟩ := x
      obtain ⟨q1, q2, q3, q4⟩ := hI
      dsimp only at q1 q2 q3 q4 ⊢
      have hvl := valN_le (chr s k)
      repeat (first | ((with_reducible apply RS.sliceStr); exact rfl; exact rfl; exact rfl; (first | exact ⟨_, _, rfl, rfl⟩ | exact rfl); (first | exact ⟨_, _, rfl, rfl⟩ | exact rfl); omega; omega) | ((with_reducible apply RS.indexChr); exact rfl; exact rfl; exact rfl; exact rfl; exact rfl; omega) | ((with_reducible apply RS.callP); exact rfl; exact rfl; exact rfl; exact fun H => (hasPrefix_tf _ _ H); exact Nm_free (by simp)) | ((with_reducible apply RS.callP); exact rfl; exact rfl; exact rfl; exact fun H => (digit_tf _ H); exact Nm_free (by simp)) | ((with_reducible apply RS.callP); exact rfl; exact rfl; exact rfl; exact fun H => (letter_tf _ H); exact Nm_free (by simp)) | ((with_reducible apply RS.callP); exact rfl; exact rfl; exact rfl; exact fun H => (value_tn _ (chr_nn (by omega)) (chr_le _ _) H); exact Nm_free (by simp)) | ((with_reducible apply RS.move); exact rfl; exact rfl; exact rfl) | ((with_reducible apply RS.assign); exact rfl; exact rfl; exact rfl) | ((with_reducible apply RS.pickT); exact rfl; exact rfl; exact rfl; exact rfl) | ((with_reducible apply RS.pickF); exact rfl; exact rfl; exact rfl; exact rfl) | ((with_reducible apply RS.cmpT); exact rfl; exact rfl; exact rfl; exact rfl; (simp only [cmpP]; omega)) | ((with_reducible apply RS.cmpF); exact rfl; exact rfl; exact rfl; exact rfl; (simp only [cmpN]; omega)) | ((with_reducible apply RS.cmpC); exact rfl; exact rfl; exact rfl; exact rfl; exact rfl) | ((with_reducible apply RS.cmpNat); exact rfl; exact rfl; exact rfl; exact rfl; exact rfl) | ((with_reducible apply RS.add3); exact rfl; exact rfl; exact rfl; exact rfl; omega) | ((with_reducible apply RS.add1); exact rfl; exact rfl; exact rfl; exact rfl; omega) | ((with_reducible apply RS.add2); exact rfl; exact rfl; exact rfl; exact rfl; omega) | ((with_reducible apply RS.add4); exact rfl; exact rfl; exact rfl; exact rfl; omega) | ((with_reducible apply RS.sub1); exact rfl; exact rfl; exact rfl; exact rfl; omega) | ((with_reducible apply RS.addNat); exact rfl; exact rfl; exact rfl; exact rfl; omega) | ((with_reducible apply RS.subNat); exact rfl; exact rfl; exact rfl; exact rfl; omega) | ((with_reducible apply RS.addU); exact rfl; exact rfl; exact rfl; exact rfl; (first | omega | assumption)) | ((with_reducible apply RS.subUM); exact rfl; exact rfl; exact rfl; exact rfl; omega) | ((with_reducible apply RS.subU); exact rfl; exact rfl; exact rfl; exact rfl; omega) | ((with_reducible apply RS.mulU); exact rfl; exact rfl; exact rfl; exact rfl; (first | omega | assumption)) | ((with_reducible apply RS.quoU); exact rfl; exact rfl; exact rfl; exact rfl; omega) | ((with_reducible apply RS.binFit); exact rfl; exact rfl; exact rfl; exact rfl; exact rfl; omega) | ((with_reducible apply RS.bin); exact rfl; exact rfl; exact rfl; exact rfl; exact rfl) | ((with_reducible apply RS.binStr); exact rfl; exact rfl; exact rfl; exact rfl; exact rfl) | ((with_reducible apply RS.lenStr); exact rfl; exact rfl; exact rfl) | ((with_reducible apply RS.lenSl); exact rfl; exact rfl; exact rfl) | ((with_reducible apply RS.indexStr); exact rfl; exact rfl; exact rfl; exact rfl; exact rfl; omega) | ((with_reducible apply RS.not); exact rfl; exact rfl; exact rfl) | ((with_reducible apply RS.convI); exact rfl; exact rfl; exact rfl) | ((with_reducible apply RS.extract); exact rfl; exact rfl; exact rfl; exact rfl) | ((with_reducible apply RS.fieldAddr); exact rfl; exact rfl; exact rfl) | ((with_reducible apply RS.load1); exact rfl; exact rfl; exact rfl; exact rfl; exact rfl; exact rfl) | ((with_reducible apply RS.loadN); exact rfl; exact rfl; exact rfl; exact rfl; exact rfl; exact Nat.le_of_ble_eq_true rfl) | ((with_reducible apply RS.store); exact rfl; exact rfl; exact rfl; exact rfl; exact rfl; exact Nat.le_of_ble_eq_true rfl; exact rfl; exact rfl; exact rfl) | ((with_reducible apply RS.alloc); exact rfl; exact rfl) | ((with_reducible apply RS.box); exact rfl; exact rfl; exact rfl) | ((with_reducible apply RS.build); exact rfl; exact rfl; exact rfl; exact rfl) | ((with_reducible apply RS.skip); exact rfl; exact rfl) | ((with_reducible apply RS.nil); exact mixed; kernel_rfl) | ((with_reducible apply W.seq)) | ((with_reducible apply W.reg); kernel_rfl) | ((with_reducible apply W.block)) | ((with_reducible apply W.exit)) | ((with_reducible apply W.ret)) | ((with_reducible apply W.skip)) | ((with_reducible apply W.label)) | ((with_reducible apply W.condT); kernel_rfl; exact rfl) | ((with_reducible apply W.condF); kernel_rfl; exact rfl) | ((with_reducible apply thenK_n)) | ((with_reducible apply thenK_e)) | ((with_reducible apply thenK_r)) | ((with_reducible apply blockK_n)) | ((with_reducible apply blockK_r)) | ((with_reducible apply blockK_hit); exact rfl) | ((with_reducible apply blockK_miss); exact rfl) | ((with_reducible apply roundK_e)) | ((with_reducible apply roundK_r)) | ((with_reducible apply joinK_e)) | ((with_reducible apply joinK_r)))
      rcases h4 with rfl | rfl
      all_goals repeat' ((first | (((with_reducible apply RS.splitD); exact rfl; exact rfl) <;> intro _) | ((((with_reducible apply RS.splitG); exact rfl; exact rfl) <;> intro _) <;> (fail_if_success (exact absurd ‹true = false› (by decide))) <;> (fail_if_success (exact absurd ‹false = true› (by decide)))) | (((with_reducible apply W.condD); exact rfl) <;> intro _) | ((((with_reducible apply W.cond); exact rfl) <;> intro _) <;> (fail_if_success (exact absurd ‹true = false› (by decide))) <;> (fail_if_success (exact absurd ‹false = true› (by decide))))) <;> repeat (first | ((with_reducible apply RS.sliceStr); exact rfl; exact rfl; exact rfl; (first | exact ⟨_, _, rfl, rfl⟩ | exact rfl); (first | exact ⟨_, _, rfl, rfl⟩ | exact rfl); omega; omega) | ((with_reducible apply RS.indexChr); exact rfl; exact rfl; exact rfl; exact rfl; exact rfl; omega) | ((with_reducible apply RS.callP); exact rfl; exact rfl; exact rfl; exact fun H => (hasPrefix_tf _ _ H); exact Nm_free (by simp)) | ((with_reducible apply RS.callP); exact rfl; exact rfl; exact rfl; exact fun H => (digit_tf _ H); exact Nm_free (by simp)) | ((with_reducible apply RS.callP); exact rfl; exact rfl; exact rfl; exact fun H => (letter_tf _ H); exact Nm_free (by simp)) | ((with_reducible apply RS.callP); exact rfl; exact rfl; exact rfl; exact fun H => (value_tn _ (chr_nn (by omega)) (chr_le _ _) H); exact Nm_free (by simp)) | ((with_reducible apply RS.move); exact rfl; exact rfl; exact rfl) | ((with_reducible apply RS.assign); exact rfl; exact rfl; exact rfl) | ((with_reducible apply RS.pickT); exact rfl; exact rfl; exact rfl; exact rfl) | ((with_reducible apply RS.pickF); exact rfl; exact rfl; exact rfl; exact rfl) | ((with_reducible apply RS.cmpT); exact rfl; exact rfl; exact rfl; exact rfl; (simp only [cmpP]; omega)) | ((with_reducible apply RS.cmpF); exact rfl; exact rfl; exact rfl; exact rfl; (simp only [cmpN]; omega)) | ((with_reducible apply RS.cmpC); exact rfl; exact rfl; exact rfl; exact rfl; exact rfl) | ((with_reducible apply RS.cmpNat); exact rfl; exact rfl; exact rfl; exact rfl; exact rfl) | ((with_reducible apply RS.add3); exact rfl; exact rfl; exact rfl; exact rfl; omega) | ((with_reducible apply RS.add1); exact rfl; exact rfl; exact rfl; exact rfl; omega) | ((with_reducible apply RS.add2); exact rfl; exact rfl; exact rfl; exact rfl; omega) | ((with_reducible apply RS.add4); exact rfl; exact rfl; exact rfl; exact rfl; omega) | ((with_reducible apply RS.sub1); exact rfl; exact rfl; exact rfl; exact rfl; omega) | ((with_reducible apply RS.addNat); exact rfl; exact rfl; exact rfl; exact rfl; omega) | ((with_reducible apply RS.subNat); exact rfl; exact rfl; exact rfl; exact rfl; omega) | ((with_reducible apply RS.addU); exact rfl; exact rfl; exact rfl; exact rfl; (first | omega | assumption)) | ((with_reducible apply RS.subUM); exact rfl; exact rfl; exact rfl; exact rfl; omega) | ((with_reducible apply RS.subU); exact rfl; exact rfl; exact rfl; exact rfl; omega) | ((with_reducible apply RS.mulU); exact rfl; exact rfl; exact rfl; exact rfl; (first | omega | assumption)) | ((with_reducible apply RS.quoU); exact rfl; exact rfl; exact rfl; exact rfl; omega) | ((with_reducible apply RS.binFit); exact rfl; exact rfl; exact rfl; exact rfl; exact rfl; omega) | ((with_reducible apply RS.bin); exact rfl; exact rfl; exact rfl; exact rfl; exact rfl) | ((with_reducible apply RS.binStr); exact rfl; exact rfl; exact rfl; exact rfl; exact rfl) | ((with_reducible apply RS.lenStr); exact rfl; exact rfl; exact rfl) | ((with_reducible apply RS.lenSl); exact rfl; exact rfl; exact rfl) | ((with_reducible apply RS.indexStr); exact rfl; exact rfl; exact rfl; exact rfl; exact rfl; omega) | ((with_reducible apply RS.not); exact rfl; exact rfl; exact rfl) | ((with_reducible apply RS.convI); exact rfl; exact rfl; exact rfl) | ((with_reducible apply RS.extract); exact rfl; exact rfl; exact rfl; exact rfl) | ((with_reducible apply RS.fieldAddr); exact rfl; exact rfl; exact rfl) | ((with_reducible apply RS.load1); exact rfl; exact rfl; exact rfl; exact rfl; exact rfl; exact rfl) | ((with_reducible apply RS.loadN); exact rfl; exact rfl; exact rfl; exact rfl; exact rfl; exact Nat.le_of_ble_eq_true rfl) | ((with_reducible apply RS.store); exact rfl; exact rfl; exact rfl; exact rfl; exact rfl; exact Nat.le_of_ble_eq_true rfl; exact rfl; exact rfl; exact rfl) | ((with_reducible apply RS.alloc); exact rfl; exact rfl) | ((with_reducible apply RS.box); exact rfl; exact rfl; exact rfl) | ((with_reducible apply RS.build); exact rfl; exact rfl; exact rfl; exact rfl) | ((with_reducible apply RS.skip); exact rfl; exact rfl) | ((with_reducible apply RS.nil); exact mixed; kernel_rfl) | ((with_reducible apply W.seq)) | ((with_reducible apply W.reg); kernel_rfl) | ((with_reducible apply W.block)) | ((with_reducible apply W.exit)) | ((with_reducible apply W.ret)) | ((with_reducible apply W.skip)) | ((with_reducible apply W.label)) | ((with_reducible apply W.condT); kernel_rfl; exact rfl) | ((with_reducible apply W.condF); kernel_rfl; exact rfl) | ((with_reducible apply thenK_n)) | ((with_reducible apply thenK_e)) | ((with_reducible apply thenK_r)) | ((with_reducible apply blockK_n)) | ((with_reducible apply blockK_r)) | ((with_reducible apply blockK_hit); exact rfl) | ((with_reducible apply blockK_miss); exact rfl) | ((with_reducible apply roundK_e)) | ((with_reducible apply roundK_r)) | ((with_reducible apply joinK_e)) | ((with_reducible apply joinK_r))))
      all_goals first
        | exact joinK_n (v, k) [0, 1] rfl rfl ⟨by rw [q1, numL_end ‹¬ k < s.size›], q2, q3⟩ (by (refine FitL.mk ?_ ?_ ?_ ?_ <;> (repeat' (first | exact trivial | exact rfl | apply And.intro)); done))
        | exact joinK_n (v, k) [0, 1] rfl rfl ⟨by rw [q1, numL_step ‹k < s.size›, if_neg (fun hc => by have := hc.2; omega)], q2, q3⟩ (by (refine FitL.mk ?_ ?_ ?_ ?_ <;> (repeat' (first | exact trivial | exact rfl | apply And.intro)); done))
        | exact joinK_n (v, k) [0, 1] rfl rfl ⟨by rw [q1, numL_step ‹k < s.size›, if_neg (fun hc => by simp [wordyI, *] at hc)], q2, q3⟩ (by (refine FitL.mk ?_ ?_ ?_ ?_ <;> (repeat' (first | exact trivial | exact rfl | apply And.intro)); done))
        | (refine endsK_ret _ (.cons (.cellN rfl rfl rfl (Nat.le_of_ble_eq_true rfl)) (.cons (.tmp rfl) .nil)) ⟨rfl, ?_⟩; rw [h1, numberR, q1, numL_step ‹k < s.size›, if_pos ⟨by simp [wordyI, *], by omega⟩, if_pos (by assumption)]; rfl)
        | (refine roundK_n (v * 10 + valN (chr s k), k + 1) [0, 1] rfl rfl ⟨?_, ?_, ?_, ?_⟩ ?_ ?_; (rw [q1, numL_step ‹k < s.size›, if_pos ⟨by simp [wordyI, *], by omega⟩, if_neg (by assumption)]); (simp only; omega); (simp only; omega); (simp only; omega); (simp only; omega); ((refine FitL.mk ?_ ?_ ?_ ?_ <;> (repeat' (first | exact trivial | exact rfl | apply And.intro)); done)))
        | (refine roundK_n (v * 16 + valN (chr s k), k + 1) [0, 1] rfl rfl ⟨?_, ?_, ?_, ?_⟩ ?_ ?_; (rw [q1, numL_step ‹k < s.size›, if_pos ⟨by simp [wordyI, *], by omega⟩, if_neg (by assumption)]); (simp only; omega); (simp only; omega); (simp only; omega); (simp only; omega); ((refine FitL.mk ?_ ?_ ?_ ?_ <;> (repeat' (first | exact trivial | exact rfl | apply And.intro)); done)))
    · intro π x hI
      obtain ⟨v, k⟩ := x
      obtain ⟨q1, q2, q3⟩ := hI
      dsimp only at q1 q2 q3 ⊢
      repeat (first | ((with_reducible apply RS.sliceStr); exact rfl; exact rfl; exact rfl; (first | exact ⟨_, _, rfl, rfl⟩ | exact rfl); (first | exact ⟨_, _, rfl, rfl⟩ | exact rfl); omega; omega) | ((with_reducible apply RS.indexChr); exact rfl; exact rfl; exact rfl; exact rfl; exact rfl; omega) | ((with_reducible apply RS.callP); exact rfl; exact rfl; exact rfl; exact fun H => (hasPrefix_tf _ _ H); exact Nm_free (by simp)) | ((with_reducible apply RS.callP); exact rfl; exact rfl; exact rfl; exact fun H => (digit_tf _ H); exact Nm_free (by simp)) | ((with_reducible apply RS.callP); exact rfl; exact rfl; exact rfl; exact fun H => (letter_tf _ H); exact Nm_free (by simp)) | ((with_reducible apply RS.callP); exact rfl; exact rfl; exact rfl; exact fun H => (value_tn _ (chr_nn (by omega)) (chr_le _ _) H); exact Nm_free (by simp)) | ((with_reducible apply RS.move); exact rfl; exact rfl; exact rfl) | ((with_reducible apply RS.assign); exact rfl; exact rfl; exact rfl) | ((with_reducible apply RS.pickT); exact rfl; exact rfl; exact rfl; exact rfl) | ((with_reducible apply RS.pickF); exact rfl; exact rfl; exact rfl; exact rfl) | ((with_reducible apply RS.cmpT); exact rfl; exact rfl; exact rfl; exact rfl; (simp only [cmpP]; omega)) | ((with_reducible apply RS.cmpF); exact rfl; exact rfl; exact rfl; exact rfl; (simp only [cmpN]; omega)) | ((with_reducible apply RS.cmpC); exact rfl; exact rfl; exact rfl; exact rfl; exact rfl) | ((with_reducible apply RS.cmpNat); exact rfl; exact rfl; exact rfl; exact rfl; exact rfl) | ((with_reducible apply RS.add3); exact rfl; exact rfl; exact rfl; exact rfl; omega) | ((with_reducible apply RS.add1); exact rfl; exact rfl; exact rfl; exact rfl; omega) | ((with_reducible apply RS.add2); exact rfl; exact rfl; exact rfl; exact rfl; omega) | ((with_reducible apply RS.add4); exact rfl; exact rfl; exact rfl; exact rfl; omega) | ((with_reducible apply RS.sub1); exact rfl; exact rfl; exact rfl; exact rfl; omega) | ((with_reducible apply RS.addNat); exact rfl; exact rfl; exact rfl; exact rfl; omega) | ((with_reducible apply RS.subNat); exact rfl; exact rfl; exact rfl; exact rfl; omega) | ((with_reducible apply RS.addU); exact rfl; exact rfl; exact rfl; exact rfl; (first | omega | assumption)) | ((with_reducible apply RS.subUM); exact rfl; exact rfl; exact rfl; exact rfl; omega) | ((with_reducible apply RS.subU); exact rfl; exact rfl; exact rfl; exact rfl; omega) | ((with_reducible apply RS.mulU); exact rfl; exact rfl; exact rfl; exact rfl; (first | omega | assumption)) | ((with_reducible apply RS.quoU); exact rfl; exact rfl; exact rfl; exact rfl; omega) | ((with_reducible apply RS.binFit); exact rfl; exact rfl; exact rfl; exact rfl; exact rfl; omega) | ((with_reducible apply RS.bin); exact rfl; exact rfl; exact rfl; exact rfl; exact rfl) | ((with_reducible apply RS.binStr); exact rfl; exact rfl; exact rfl; exact rfl; exact rfl) | ((with_reducible apply RS.lenStr); exact rfl; exact rfl; exact rfl) | ((with_reducible apply RS.lenSl); exact rfl; exact rfl; exact rfl) | ((with_reducible apply RS.indexStr); exact rfl; exact rfl; exact rfl; exact rfl; exact rfl; omega) | ((with_reducible apply RS.not); exact rfl; exact rfl; exact rfl) | ((with_reducible apply RS.convI); exact rfl; exact rfl; exact rfl) | ((with_reducible apply RS.extract); exact rfl; exact rfl; exact rfl; exact rfl) | ((with_reducible apply RS.fieldAddr); exact rfl; exact rfl; exact rfl) | ((with_reducible apply RS.load1); exact rfl; exact rfl; exact rfl; exact rfl; exact rfl; exact rfl) | ((with_reducible apply RS.loadN); exact rfl; exact rfl; exact rfl; exact rfl; exact rfl; exact Nat.le_of_ble_eq_true rfl) | ((with_reducible apply RS.store); exact rfl; exact rfl; exact rfl; exact rfl; exact rfl; exact Nat.le_of_ble_eq_true rfl; exact rfl; exact rfl; exact rfl) | ((with_reducible apply RS.alloc); exact rfl; exact rfl) | ((with_reducible apply RS.box); exact rfl; exact rfl; exact rfl) | ((with_reducible apply RS.build); exact rfl; exact rfl; exact rfl; exact rfl) | ((with_reducible apply RS.skip); exact rfl; exact rfl) | ((with_reducible apply RS.nil); exact mixed; kernel_rfl) | ((with_reducible apply W.seq)) | ((with_reducible apply W.reg); kernel_rfl) | ((with_reducible apply W.block)) | ((with_reducible apply W.exit)) | ((with_reducible apply W.ret)) | ((with_reducible apply W.skip)) | ((with_reducible apply W.label)) | ((with_reducible apply W.condT); kernel_rfl; exact rfl) | ((with_reducible apply W.condF); kernel_rfl; exact rfl) | ((with_reducible apply thenK_n)) | ((with_reducible apply thenK_e)) | ((with_reducible apply thenK_r)) | ((with_reducible apply blockK_n)) | ((with_reducible apply blockK_r)) | ((with_reducible apply blockK_hit); exact rfl) | ((with_reducible apply blockK_miss); exact rfl) | ((with_reducible apply roundK_e)) | ((with_reducible apply roundK_r)) | ((with_reducible apply joinK_e)) | ((with_reducible apply joinK_r)))
      repeat' ((first | (((with_reducible apply RS.splitD); exact rfl; exact rfl) <;> intro _) | ((((with_reducible apply RS.splitG); exact rfl; exact rfl) <;> intro _) <;> (fail_if_success (exact absurd ‹true = false› (by decide))) <;> (fail_if_success (exact absurd ‹false = true› (by decide)))) | (((with_reducible apply W.condD); exact rfl) <;> intro _) | ((((with_reducible apply W.cond); exact rfl) <;> intro _) <;> (fail_if_success (exact absurd ‹true = false› (by decide))) <;> (fail_if_success (exact absurd ‹false = true› (by decide))))) <;> repeat (first | ((with_reducible apply RS.sliceStr); exact rfl; exact rfl; exact rfl; (first | exact ⟨_, _, rfl, rfl⟩ | exact rfl); (first | exact ⟨_, _, rfl, rfl⟩ | exact rfl); omega; omega) | ((with_reducible apply RS.indexChr); exact rfl; exact rfl; exact rfl; exact rfl; exact rfl; omega) | ((with_reducible apply RS.callP); exact rfl; exact rfl; exact rfl; exact fun H => (hasPrefix_tf _ _ H); exact Nm_free (by simp)) | ((with_reducible apply RS.callP); exact rfl; exact rfl; exact rfl; exact fun H => (digit_tf _ H); exact Nm_free (by simp)) | ((with_reducible apply RS.callP); exact rfl; exact rfl; exact rfl; exact fun H => (letter_tf _ H); exact Nm_free (by simp)) | ((with_reducible apply RS.callP); exact rfl; exact rfl; exact rfl; exact fun H => (value_tn _ (chr_nn (by omega)) (chr_le _ _) H); exact Nm_free (by simp)) | ((with_reducible apply RS.move); exact rfl; exact rfl; exact rfl) | ((with_reducible apply RS.assign); exact rfl; exact rfl; exact rfl) | ((with_reducible apply RS.pickT); exact rfl; exact rfl; exact rfl; exact rfl) | ((with_reducible apply RS.pickF); exact rfl; exact rfl; exact rfl; exact rfl) | ((with_reducible apply RS.cmpT); exact rfl; exact rfl; exact rfl; exact rfl; (simp only [cmpP]; omega)) | ((with_reducible apply RS.cmpF); exact rfl; exact rfl; exact rfl; exact rfl; (simp only [cmpN]; omega)) | ((with_reducible apply RS.cmpC); exact rfl; exact rfl; exact rfl; exact rfl; exact rfl) | ((with_reducible apply RS.cmpNat); exact rfl; exact rfl; exact rfl; exact rfl; exact rfl) | ((with_reducible apply RS.add3); exact rfl; exact rfl; exact rfl; exact rfl; omega) | ((with_reducible apply RS.add1); exact rfl; exact rfl; exact rfl; exact rfl; omega) | ((with_reducible apply RS.add2); exact rfl; exact rfl; exact rfl; exact rfl; omega) | ((with_reducible apply RS.add4); exact rfl; exact rfl; exact rfl; exact rfl; omega) | ((with_reducible apply RS.sub1); exact rfl; exact rfl; exact rfl; exact rfl; omega) | ((with_reducible apply RS.addNat); exact rfl; exact rfl; exact rfl; exact rfl; omega) | ((with_reducible apply RS.subNat); exact rfl; exact rfl; exact rfl; exact rfl; omega) | ((with_reducible apply RS.addU); exact rfl; exact rfl; exact rfl; exact rfl; (first | omega | assumption)) | ((with_reducible apply RS.subUM); exact rfl; exact rfl; exact rfl; exact rfl; omega) | ((with_reducible apply RS.subU); exact rfl; exact rfl; exact rfl; exact rfl; omega) | ((with_reducible apply RS.mulU); exact rfl; exact rfl; exact rfl; exact rfl; (first | omega | assumption)) | ((with_reducible apply RS.quoU); exact rfl; exact rfl; exact rfl; exact rfl; omega) | ((with_reducible apply RS.binFit); exact rfl; exact rfl; exact rfl; exact rfl; exact rfl; omega) | ((with_reducible apply RS.bin); exact rfl; exact rfl; exact rfl; exact rfl; exact rfl) | ((with_reducible apply RS.binStr); exact rfl; exact rfl; exact rfl; exact rfl; exact rfl) | ((with_reducible apply RS.lenStr); exact rfl; exact rfl; exact rfl) | ((with_reducible apply RS.lenSl); exact rfl; exact rfl; exact rfl) | ((with_reducible apply RS.indexStr); exact rfl; exact rfl; exact rfl; exact rfl; exact rfl; omega) | ((with_reducible apply RS.not); exact rfl; exact rfl; exact rfl) | ((with_reducible apply RS.convI); exact rfl; exact rfl; exact rfl) | ((with_reducible apply RS.extract); exact rfl; exact rfl; exact rfl; exact rfl) | ((with_reducible apply RS.fieldAddr); exact rfl; exact rfl; exact rfl) | ((with_reducible apply RS.load1); exact rfl; exact rfl; exact rfl; exact rfl; exact rfl; exact rfl) | ((with_reducible apply RS.loadN); exact rfl; exact rfl; exact rfl; exact rfl; exact rfl; exact Nat.le_of_ble_eq_true rfl) | ((with_reducible apply RS.store); exact rfl; exact rfl; exact rfl; exact rfl; exact rfl; exact Nat.le_of_ble_eq_true rfl; exact rfl; exact rfl; exact rfl) | ((with_reducible apply RS.alloc); exact rfl; exact rfl) | ((with_reducible apply RS.box); exact rfl; exact rfl; exact rfl) | ((with_reducible apply RS.build); exact rfl; exact rfl; exact rfl; exact rfl) | ((with_reducible apply RS.skip); exact rfl; exact rfl) | ((with_reducible apply RS.nil); exact mixed; kernel_rfl) | ((with_reducible apply W.seq)) | ((with_reducible apply W.reg); kernel_rfl) | ((with_reducible apply W.block)) | ((with_reducible apply W.exit)) | ((with_reducible apply W.ret)) | ((with_reducible apply W.skip)) | ((with_reducible apply W.label)) | ((with_reducible apply W.condT); kernel_rfl; exact rfl) | ((with_reducible apply W.condF); kernel_rfl; exact rfl) | ((with_reducible apply thenK_n)) | ((with_reducible apply thenK_e)) | ((with_reducible apply thenK_r)) | ((with_reducible apply blockK_n)) | ((with_reducible apply blockK_r)) | ((with_reducible apply blockK_hit); exact rfl) | ((with_reducible apply blockK_miss); exact rfl) | ((with_reducible apply roundK_e)) | ((with_reducible apply roundK_r)) | ((with_reducible apply joinK_e)) | ((with_reducible apply joinK_r))))
      all_goals refine endsK_ret _ (.cons (.cellN rfl rfl rfl (Nat.le_of_ble_eq_true rfl)) (.cons (.tmp rfl) .nil)) ⟨rfl, ?_⟩
      all_goals rw [h1, numberR, q1]
      all_goals have e1 : chr s s.size = -1 := chr_ge (by omega)
      all_goals have e2 : ∀ i, s.size ≤ i → chr s i = -1 := fun i hi => chr_ge (by omega)
      all_goals simp only
      all_goals split
      all_goals first | (exact absurd ‹k = start› (by assumption)) | skip
      · rfl
      all_goals simp only [resultOf, numTail, tokV, wordyI]
      all_goals (try simp only [Nat.not_lt] at *)
      all_goals simp [*, takeV, setL, cellsV]
      all_goals exact ⟨by decide, by decide⟩
end Go.Proofs.YtghpaggkbpdmkaaDoor
namespace Go.Proofs.YtghpaggkbpdmkaaDoor
def tl (s : ByteArray) (p : Nat) : List UInt8 := (s.extract p s.size).data.toList
theorem tl_eq {s : ByteArray} {p : Nat} : tl s p = s.data.toList.drop p := by
  unfold tl
  rw [Lib.extract_data]
  simp [List.take_of_length_le]
theorem tl_cons {s : ByteArray} {p : Nat} (h : p < s.size) : tl s p = s[p] :: tl s (p + 1) := by
  rw [tl_eq, tl_eq]
  have hl : p < s.data.toList.length := by simpa using h
  rw [List.drop_eq_getElem_cons hl]
  congr 1
theorem tl_nil {s : ByteArray} {p : Nat} (h : ¬ p < s.size) : tl s p = [] := by
  rw [tl_eq]
  exact List.drop_eq_nil_of_le (by simpa using h)
theorem chr_u8 {s : ByteArray} {p : Nat} (h : p < s.size) (c : UInt8) : (s[p] == c) = decide (chr s p = (c.toNat : Int)) := by
  rw [chr_lt h, Bool.eq_iff_iff]
  simp only [beq_iff_eq, decide_eq_true_eq]
  constructor
  · intro e; rw [e]
  · intro e; exact UInt8.toNat_inj.1 (by omega)
def nlF (s : ByteArray) : Nat → Nat → Nat
  | 0, p => p
  | n + 1, p => if chr s p = 10 then p else nlF s n (p + 1)
def nl (s : ByteArray) (p : Nat) : Nat := nlF s (s.size - p) p
theorem nl_at {s : ByteArray} {p : Nat} (h : chr s p = 10) : nl s p = p := by
  unfold nl
  cases s.size - p with
  | zero => rfl
  | succ n => rw [nlF, if_pos h]
theorem nl_step {s : ByteArray} {p : Nat} (hp : p < s.size) (h : ¬ chr s p = 10) : nl s p = nl s (p + 1) := by
  unfold nl
  rw [show s.size - p = (s.size - (p + 1)) + 1 by omega, nlF, if_neg h]
theorem nl_end {s : ByteArray} {p : Nat} (hp : ¬ p < s.size) : nl s p = p := by
  unfold nl
  rw [show s.size - p = 0 by omega, nlF]
theorem nl_ge (s : ByteArray) : ∀ n p, s.size - p = n → p ≤ nl s p ∧ (p ≤ s.size → nl s p ≤ s.size) ∧ (nl s p < s.size → chr s (nl s p) = 10) := by
  intro n
  induction n with
  | zero => intro p h; rw [nl_end (by omega)]; exact ⟨Nat.le_refl _, fun h => h, fun _ => by omega⟩
  | succ n ih =>
    intro p h
    by_cases hc : chr s p = 10
    · rw [nl_at hc]; exact ⟨Nat.le_refl _, fun h => h, fun _ => hc⟩
    · rw [nl_step (by omega) hc]
      have := ih (p + 1) (by omega)
      exact ⟨by omega, fun _ => this.2.1 (by omega), this.2.2⟩
theorem ixB_nl (s : ByteArray) : ∀ n p, s.size - p = n → p ≤ s.size → Lib.indexByte (tl s p) 10 = if nl s p < s.size then ((nl s p - p : Nat) : Int) else -1 := by
  intro n
  induction n with
  | zero => intro p h hp; rw [tl_nil (by omega), nl_end (by omega), if_neg (by omega)]; rfl
  | succ n ih =>
    intro p h hp
    have hlt : p < s.size := by omega
    rw [tl_cons hlt, Lib.indexByte, chr_u8 hlt]
    by_cases hc : chr s p = 10
    · rw [nl_at hc, if_pos hlt, if_pos (by simpa using hc)]; simp
    · rw [if_neg (by simpa using hc), ih (p + 1) (by omega) (by omega), nl_step hlt hc]
      have := (nl_ge s (s.size - (p + 1)) (p + 1) rfl).1
      by_cases h2 : nl s (p + 1) < s.size
      · rw [if_pos h2, if_pos h2]
        rw [if_neg (by simp only [beq_iff_eq]; omega)]
        omega
      · rw [if_neg h2, if_neg h2]; rfl
def endF (s : ByteArray) : Nat → Nat → Option Nat
  | 0, _ => none
  | n + 1, p => if chr s p = 42 ∧ chr s (p + 1) = 47 then some p else endF s n (p + 1)
def endC (s : ByteArray) (p : Nat) : Option Nat := endF s (s.size - p) p
theorem endC_at {s : ByteArray} {p : Nat} (h : chr s p = 42 ∧ chr s (p + 1) = 47) : endC s p = some p := by
  have hp : p < s.size := by
    by_cases h0 : p < s.size
    · exact h0
    · rw [chr_ge h0] at h; exact absurd h.1 (by decide)
  unfold endC
  rw [show s.size - p = (s.size - (p + 1)) + 1 by omega, endF, if_pos h]
theorem endC_step {s : ByteArray} {p : Nat} (h : ¬ (chr s p = 42 ∧ chr s (p + 1) = 47)) : endC s p = endC s (p + 1) := by
  unfold endC
  by_cases h0 : p < s.size
  · rw [show s.size - p = (s.size - (p + 1)) + 1 by omega, endF, if_neg h]
  · rw [show s.size - p = 0 by omega, show s.size - (p + 1) = 0 by omega]; rfl
theorem endC_end {s : ByteArray} {p : Nat} (hp : ¬ p + 1 < s.size) : endC s p = none := by
  unfold endC
  by_cases h : p < s.size
  · rw [show s.size - p = 0 + 1 by omega, endF, if_neg (fun hc => by rw [chr_ge hp] at hc; exact absurd hc.2 (by decide))]; rfl
  · rw [show s.size - p = 0 by omega]; rfl
theorem endC_ok (s : ByteArray) : ∀ n p i, s.size - p = n → endC s p = some i → p ≤ i ∧ i + 1 < s.size := by
  intro n
  induction n with
  | zero => intro p i h he; rw [endC_end (by omega)] at he; cases he
  | succ n ih =>
    intro p i h he
    by_cases hc : chr s p = 42 ∧ chr s (p + 1) = 47
    · rw [endC_at hc] at he
      injection he with he
      subst he
      refine ⟨Nat.le_refl _, ?_⟩
      by_cases h0 : p + 1 < s.size
      · exact h0
      · rw [chr_ge h0] at hc; exact absurd hc.2 (by decide)
    · rw [endC_step hc] at he
      have := ih (p + 1) i (by omega) he
      exact ⟨by omega, this.2⟩
def endI (s : ByteArray) (p : Nat) : Int := match endC s p with
  | none => -1
  | some i => ((i - p : Nat) : Int)
theorem ix_end (s : ByteArray) : ∀ n p, s.size - p = n → p ≤ s.size → Lib.index (tl s p) [42, 47] = endI s p := by
  intro n
  induction n with
  | zero =>
    intro p h hp
    unfold endI
    rw [tl_nil (by omega), endC_end (by omega)]
    rfl
  | succ n ih =>
    intro p h hp
    have hlt : p < s.size := by omega
    have hpre := hasP2 (a := 42) (b := 47) hp
    have hpre : List.isPrefixOf [42, 47] (tl s p) = (chr s p == 42 && chr s (p + 1) == 47) := hpre
    by_cases hc : chr s p = 42 ∧ chr s (p + 1) = 47
    · rw [tl_cons hlt] at hpre ⊢
      rw [Lib.index, hpre]
      unfold endI
      rw [endC_at hc]
      simp [hc.1, hc.2]
    · have hb : (chr s p == 42 && chr s (p + 1) == 47) = false := by
        cases hq : (chr s p == 42 && chr s (p + 1) == 47) with
        | false => rfl
        | true => simp only [Bool.and_eq_true, beq_iff_eq] at hq; exact absurd hq hc
      rw [hb] at hpre
      rw [tl_cons hlt] at hpre ⊢
      rw [Lib.index, hpre, ih (p + 1) (by omega) (by omega)]
      unfold endI
      rw [endC_step hc]
      cases he : endC s (p + 1) with
      | none => rfl
      | some i =>
        have := (endC_ok s _ _ i rfl he).1
        simp only [Bool.false_eq_true, if_false]
        rw [if_neg (by simp only [beq_iff_eq]; omega)]
        omega
def blankF2 (s : ByteArray) : Nat → Nat → Nat × Bool
  | 0, p => (p, true)
  | n + 1, p => if blankI (chr s p) = true then blankF2 s n (p + 1)
    else if chr s p = 47 ∧ chr s (p + 1) = 47 then blankF2 s n (nl s p)
    else if chr s p = 47 ∧ chr s (p + 1) = 42 then (match endC s (p + 2) with | none => (p, false) | some i => blankF2 s n (i + 2))
    else (p, true)
def blankS (s : ByteArray) (p : Nat) : Nat × Bool := blankF2 s (s.size - p) p
theorem blankF2_end {s : ByteArray} {n p : Nat} (h : ¬ p < s.size) : blankF2 s n p = (p, true) := by
  cases n with
  | zero => rfl
  | succ n => rw [blankF2, chr_ge h, if_neg (by decide), if_neg (fun hc => absurd hc.1 (by decide)), if_neg (fun hc => absurd hc.1 (by decide))]
theorem nl_gt {s : ByteArray} {p : Nat} (h : chr s p = 47) : p < nl s p := by
  have hp : p < s.size := by
    by_cases h0 : p < s.size
    · exact h0
    · rw [chr_ge h0] at h; exact absurd h (by decide)
  rw [nl_step hp (by rw [h]; decide)]
  have := (nl_ge s _ (p + 1) rfl).1
  omega
theorem blankF2_le (s : ByteArray) : ∀ n p, p ≤ s.size → p ≤ (blankF2 s n p).1 ∧ (blankF2 s n p).1 ≤ s.size := by
  intro n
  induction n with
  | zero => intro p h; exact ⟨Nat.le_refl _, h⟩
  | succ n ih =>
    intro p h
    by_cases hp : p < s.size
    · rw [blankF2]
      split
      · have := ih (p + 1) (by omega); omega
      · split
        · rename_i h1
          have h2 := nl_gt h1.1
          have h3 := (nl_ge s _ p rfl).2.1 h
          have := ih (nl s p) h3; omega
        · split
          · split
            · exact ⟨Nat.le_refl _, h⟩
            · rename_i i he
              have := endC_ok s _ _ i rfl he
              have := ih (i + 2) (by omega); omega
          · exact ⟨Nat.le_refl _, h⟩
    · rw [blankF2_end hp]; exact ⟨Nat.le_refl _, h⟩
def escI (c : Int) : Int := if c = 110 then 0 else if c = 116 then 1 else if c = 48 then 2 else if c = 92 then 3 else if c = 39 then 4 else -1
def escV (c : Int) : Nat := if c = 110 then 10 else if c = 116 then 9 else if c = 48 then 0 else if c = 92 then 92 else 39
def charS (s : ByteArray) (p : Nat) : TokS × Bool :=
  if chr s (p + 1) = 92 ∧ chr s (p + 3) = 39 then (if escI (chr s (p + 2)) < 0 then (zeroTok, false) else (⟨3, s.extract p (p + 4), p, escV (chr s (p + 2)), false, false⟩, true))
  else if chr s (p + 2) = 39 ∧ 32 ≤ chr s (p + 1) ∧ chr s (p + 1) < 127 ∧ chr s (p + 1) ≠ 39 ∧ chr s (p + 1) ≠ 92 then (⟨3, s.extract p (p + 3), p, (chr s (p + 1)).toNat, false, false⟩, true)
  else (zeroTok, false)
theorem esc_ix (c : Int) (h0 : 0 ≤ c) (h1 : c ≤ 255) : Lib.indexByte [110, 116, 48, 92, 39] c.toNat.toUInt8 = escI c := by
  obtain ⟨n, rfl⟩ : ∃ n : Nat, c = (n : Int) := ⟨c.toNat, by omega⟩
  have hn : n < 256 := by omega
  have : ∀ m : Fin 256, Lib.indexByte [110, 116, 48, 92, 39] (((m.val : Int)).toNat.toUInt8) = escI (m.val : Int) := by decide +kernel
  exact this ⟨n, hn⟩
theorem size_tail (s : ByteArray) {p : Nat} : (s.extract p s.size).size = s.size - p := by simp
theorem chr_tail {s : ByteArray} {p i : Nat} : chr (s.extract p s.size) i = chr s (p + i) := by
  by_cases h : i < (s.extract p s.size).size
  · have h2 : p + i < s.size := by simp at h; omega
    rw [chr_lt h, chr_lt h2]
    have e : (s.extract p s.size)[i]'h = s[p + i]'h2 := by
      have h3 : i < (tl s p).length := by rw [tl_eq]; simp; omega
      have h4 : (s.extract p s.size)[i]'h = (tl s p)[i]'h3 := rfl
      have h5 : (tl s p)[i]? = some (s[p + i]'h2) := by
        rw [tl_eq, List.getElem?_drop, Array.getElem?_toList]
        exact Array.getElem?_eq_getElem (by simpa using h2)
      rw [h4]
      rw [List.getElem?_eq_getElem h3] at h5
      injection h5
    rw [e]
  · have h2 : ¬ p + i < s.size := by simp at h; omega
    rw [chr_ge h, chr_ge h2]
end Go.Proofs.YtghpaggkbpdmkaaDoor
namespace Go.Proofs.YtghpaggkbpdmkaaDoor
open Go.AH
attribute [local irreducible] W RS
def GL (h : Hp) : Prop := ∃ m e, h.m 1 = some ⟨⟨[.int .i64 m]⟩, e⟩
theorem GL.of {h H : Hp} (hg : GL h) (hn : 1 < h.n) (hb : ∀ id, id < h.n → H.m id = h.m id) : GL H := by
  obtain ⟨m, e, h2⟩ := hg
  exact ⟨m, e, by rw [hb 1 hn]; exact h2⟩
theorem GL.tf {P : Program} {h h' : Hp} {g : FuncId} {args : Array Value} {v : Value} (hg : GL h) (ht : 1 < h.n → TF P g args h v h') : TF P g args h v h' := by
  intro ha ρ W hok
  obtain ⟨m, e, h2⟩ := hg
  exact ht (hok.lt 1 _ h2) ha ρ W hok
theorem GL.cell {h : Hp} (hg : GL h) {ρ : Env} {W : World} (ho : HOK Tryd.prog.globals.size h ρ W) : ∃ m, W.cell? ⟨1, 0, none⟩ = some (.int .i64 m) := by
  obtain ⟨m, e, h2⟩ := hg
  have hc := ho.cell (a := ⟨1, 0, none⟩) h2 rfl (v := .int .i64 m) rfl
  refine ⟨m, ?_⟩
  have hl : ρ.loc 1 = 1 := ho.glob 1 (by decide +kernel)
  simpa [renAddr, hl] using hc
theorem indexByte_tf (s : ByteArray) (c : Int) (h : Hp) : TF Tryd.prog 17 ⟨[.string s, .int .u8 c]⟩ h (.int .i64 (Lib.indexByte s.data.toList c.toNat.toUInt8)) h :=
  TF.of_same (by simp) (by simp) fun _ W _ => Tryd.strings_IndexByte s c W
theorem index_tf (s t : ByteArray) (hs : s.size < 4294967281) (h : Hp) (hg : GL h) : TF Tryd.prog 18 ⟨[.string s, .string t]⟩ h (.int .i64 (Lib.index s.data.toList t.data.toList)) h :=
  TF.of_same (by simp) (by simp) fun _ W ho => by
    obtain ⟨m, hm⟩ := hg.cell ho
    exact Tryd.strings_Index s t m W hs hm
theorem contains_tf (s t : ByteArray) (hs : s.size < 4294967281) (h : Hp) (hg : GL h) : TF Tryd.prog 21 ⟨[.string s, .string t]⟩ h (.bool (Lib.contains s.data.toList t.data.toList)) h :=
  TF.of_same (by simp) (by simp) fun _ W ho => by
    obtain ⟨m, hm⟩ := hg.cell ho
    exact Tryd.strings_Contains s t m W hs hm
theorem nl_tf (s : ByteArray) (p : Nat) (hp : p ≤ s.size) (h : Hp) : TF Tryd.prog 17 ⟨[.string (s.extract p s.size), .int .u8 10]⟩ h (.int .i64 (if nl s p < s.size then ((nl s p - p : Nat) : Int) else -1)) h := by
  have := indexByte_tf (s.extract p s.size) 10 h
  rw [show (s.extract p s.size).data.toList = tl s p from rfl, show ((10 : Int).toNat.toUInt8) = 10 from rfl, ixB_nl s _ p rfl hp] at this
  exact this
theorem end_tf (s : ByteArray) (p : Nat) (hp : p ≤ s.size) (hs : s.size ≤ 1000000) (h : Hp) (hg : GL h) : TF Tryd.prog 18 ⟨[.string (s.extract p s.size), .string ⟨#[42, 47]⟩]⟩ h (.int .i64 (endI s p)) h := by
  have := index_tf (s.extract p s.size) ⟨#[42, 47]⟩ (by simp; omega) h hg
  rw [show (s.extract p s.size).data.toList = tl s p from rfl, show ((⟨#[42, 47]⟩ : ByteArray).data.toList) = [42, 47] from rfl, ix_end s _ p rfl hp] at this
  exact this
theorem esc_tf (c : Int) (h0 : 0 ≤ c) (h1 : c ≤ 255) (h : Hp) : TF Tryd.prog 17 ⟨[.string ⟨#[110, 116, 48, 92, 39]⟩, .int .u8 c]⟩ h (.int .i64 (escI c)) h := by
  have := indexByte_tf ⟨#[110, 116, 48, 92, 39]⟩ c h
  rw [show ((⟨#[110, 116, 48, 92, 39]⟩ : ByteArray).data.toList) = [110, 116, 48, 92, 39] from rfl, esc_ix c h0 h1] at this
  exact this
theorem hp2_tf (s : ByteArray) (p : Nat) (a b : UInt8) (hp : p ≤ s.size) (h : Hp) : TF Tryd.prog 16 ⟨[.string (s.extract p s.size), .string ⟨#[a, b]⟩]⟩ h (.bool (decide (chr s p = (a.toNat : Int) ∧ chr s (p + 1) = (b.toNat : Int)))) h := by
  have := hasPrefix_tf (s.extract p s.size) ⟨#[a, b]⟩ h
  rw [show ((⟨#[a, b]⟩ : ByteArray).data.toList) = [a, b] from rfl, hasP2 hp] at this
  have e : (chr s p == (a.toNat : Int) && chr s (p + 1) == (b.toNat : Int)) = decide (chr s p = (a.toNat : Int) ∧ chr s (p + 1) = (b.toNat : Int)) := by
    rw [Bool.eq_iff_iff]; simp
  rw [e] at this
  exact this
theorem blank_tf (s : ByteArray) (p : Nat) (hp : p ≤ s.size) (hs : s.size ≤ 1000000) (h : Hp) (hg : GL h) : TF Tryd.prog 12 ⟨[.string s, .int .i64 p]⟩ h (.tuple ⟨[.int .i64 (blankS s p).1, .bool (blankS s p).2]⟩) h := by
  refine hg.tf fun hn => ?_
  refine TF.still (fn := Tryd.f12) (c := (Tryd.f12.body.getD .skip)) Tryd.func12 (by kernel_rfl) Tryd.ntmps12 (by kernel_rfl) (by simp) ?_
  conv => arg 2; whnf
  repeat (first | ((with_reducible apply RS.sliceStr); exact rfl; exact rfl; exact rfl; (first | exact ⟨_, _, rfl, rfl⟩ | exact rfl); (first | exact ⟨_, _, rfl, rfl⟩ | exact rfl); omega; omega) | ((with_reducible apply RS.indexChr); exact rfl; exact rfl; exact rfl; exact rfl; exact rfl; omega) | ((with_reducible apply RS.callP); exact rfl; exact rfl; exact rfl; exact fun H => (nl_tf _ _ (by omega) H); exact Nm_free (by simp)) | ((with_reducible apply RS.callP); exact rfl; exact rfl; exact rfl; exact fun H => (hp2_tf _ _ _ _ (by omega) H); exact Nm_free (by simp)) | ((with_reducible apply RS.callR true []); exact rfl; exact rfl; exact rfl; exact fun H hH => end_tf _ _ (by omega) hs H (hg.of hn (hH.b rfl)); exact Nm_free (by simp)) | ((with_reducible apply RS.move); exact rfl; exact rfl; exact rfl) | ((with_reducible apply RS.assign); exact rfl; exact rfl; exact rfl) | ((with_reducible apply RS.pickT); exact rfl; exact rfl; exact rfl; exact rfl) | ((with_reducible apply RS.pickF); exact rfl; exact rfl; exact rfl; exact rfl) | ((with_reducible apply RS.cmpT); exact rfl; exact rfl; exact rfl; exact rfl; (simp only [cmpP]; omega)) | ((with_reducible apply RS.cmpF); exact rfl; exact rfl; exact rfl; exact rfl; (simp only [cmpN]; omega)) | ((with_reducible apply RS.cmpC); exact rfl; exact rfl; exact rfl; exact rfl; exact rfl) | ((with_reducible apply RS.cmpNat); exact rfl; exact rfl; exact rfl; exact rfl; exact rfl) | ((with_reducible apply RS.add3); exact rfl; exact rfl; exact rfl; exact rfl; omega) | ((with_reducible apply RS.add1); exact rfl; exact rfl; exact rfl; exact rfl; omega) | ((with_reducible apply RS.add2); exact rfl; exact rfl; exact rfl; exact rfl; omega) | ((with_reducible apply RS.add4); exact rfl; exact rfl; exact rfl; exact rfl; omega) | ((with_reducible apply RS.sub1); exact rfl; exact rfl; exact rfl; exact rfl; omega) | ((with_reducible apply RS.addNat); exact rfl; exact rfl; exact rfl; exact rfl; omega) | ((with_reducible apply RS.subNat); exact rfl; exact rfl; exact rfl; exact rfl; omega) | ((with_reducible apply RS.addU); exact rfl; exact rfl; exact rfl; exact rfl; (first | omega | assumption)) | ((with_reducible apply RS.subUM); exact rfl; exact rfl; exact rfl; exact rfl; omega) | ((with_reducible apply RS.subU); exact rfl; exact rfl; exact rfl; exact rfl; omega) | ((with_reducible apply RS.mulU); exact rfl; exact rfl; exact rfl; exact rfl; (first | omega | assumption)) | ((with_reducible apply RS.quoU); exact rfl; exact rfl; exact rfl; exact rfl; omega) | ((with_reducible apply RS.binFit); exact rfl; exact rfl; exact rfl; exact rfl; exact rfl; omega) | ((with_reducible apply RS.bin); exact rfl; exact rfl; exact rfl; exact rfl; exact rfl) | ((with_reducible apply RS.binStr); exact rfl; exact rfl; exact rfl; exact rfl; exact rfl) | ((with_reducible apply RS.lenStr); exact rfl; exact rfl; exact rfl) | ((with_reducible apply RS.lenSl); exact rfl; exact rfl; exact rfl) | ((with_reducible apply RS.indexStr); exact rfl; exact rfl; exact rfl; exact rfl; exact rfl; omega) | ((with_reducible apply RS.not); exact rfl; exact rfl; exact rfl) | ((with_reducible apply RS.convI); exact rfl; exact rfl; exact rfl) | ((with_reducible apply RS.extract); exact rfl; exact rfl; exact rfl; exact rfl) | ((with_reducible apply RS.fieldAddr); exact rfl; exact rfl; exact rfl) | ((with_reducible apply RS.load1); exact rfl; exact rfl; exact rfl; exact rfl; exact rfl; exact rfl) | ((with_reducible apply RS.loadN); exact rfl; exact rfl; exact rfl; exact rfl; exact rfl; exact Nat.le_of_ble_eq_true rfl) | ((with_reducible apply RS.store); exact rfl; exact rfl; exact rfl; exact rfl; exact rfl; exact Nat.le_of_ble_eq_true rfl; exact rfl; exact rfl; exact rfl) | ((with_reducible apply RS.alloc); exact rfl; exact rfl) | ((with_reducible apply RS.box); exact rfl; exact rfl; exact rfl) | ((with_reducible apply RS.build); exact rfl; exact rfl; exact rfl; exact rfl) | ((with_reducible apply RS.skip); exact rfl; exact rfl) | ((with_reducible apply RS.nil); exact mixed; kernel_rfl) | ((with_reducible apply W.seq)) | ((with_reducible apply W.reg); kernel_rfl) | ((with_reducible apply W.block)) | ((with_reducible apply W.exit)) | ((with_reducible apply W.ret)) | ((with_reducible apply W.skip)) | ((with_reducible apply W.label)) | ((with_reducible apply W.condT); kernel_rfl; exact rfl) | ((with_reducible apply W.condF); kernel_rfl; exact rfl) | ((with_reducible apply thenK_n)) | ((with_reducible apply thenK_e)) | ((with_reducible apply thenK_r)) | ((with_reducible apply blockK_n)) | ((with_reducible apply blockK_r)) | ((with_reducible apply blockK_hit); exact rfl) | ((with_reducible apply blockK_miss); exact rfl) | ((with_reducible apply roundK_e)) | ((with_reducible apply roundK_r)) | ((with_reducible apply joinK_e)) | ((with_reducible apply joinK_r)))
  refine W.loop (X := Nat × Nat) (fun π x => [(0, .string s), (1, .int .i64 x.1)]) (fun _ => h) (fun π x => []) (fun x => blankF2 s x.2 x.1 = blankS s p ∧ x.1 ≤ s.size ∧ s.size ≤ x.1 + x.2) (fun x => s.size - x.1) [] (p, s.size - p) ⟨rfl, hp, by simp only; omega⟩ (by (refine FitL.mk ?_ ?_ ?_ ?_ <;> (repeat' (first | exact trivial | exact rfl | apply And.intro)); done)) ?_
  intro π x hI
  obtain ⟨k, n⟩ := x
  obtain ⟨q1, q2, q3⟩ := hI
  dsimp only at q1 q2 q3 ⊢
  have hnl := nl_ge s _ k rfl
  have heI : -1 ≤ endI s (k + 2) ∧ endI s (k + 2) ≤ 1000000 := by
    unfold endI
    cases he : endC s (k + 2) with
    | none => simp only; omega
    | some i => have := endC_ok s _ _ i rfl he; simp only; omega
  repeat (first | ((with_reducible apply RS.sliceStr); exact rfl; exact rfl; exact rfl; (first | exact ⟨_, _, rfl, rfl⟩ | exact rfl); (first | exact ⟨_, _, rfl, rfl⟩ | exact rfl); omega; omega) | ((with_reducible apply RS.indexChr); exact rfl; exact rfl; exact rfl; exact rfl; exact rfl; omega) | ((with_reducible apply RS.callP); exact rfl; exact rfl; exact rfl; exact fun H => (nl_tf _ _ (by omega) H); exact Nm_free (by simp)) | ((with_reducible apply RS.callP); exact rfl; exact rfl; exact rfl; exact fun H => (hp2_tf _ _ _ _ (by omega) H); exact Nm_free (by simp)) | ((with_reducible apply RS.callR true []); exact rfl; exact rfl; exact rfl; exact fun H hH => end_tf _ _ (by omega) hs H (hg.of hn (hH.b rfl)); exact Nm_free (by simp)) | ((with_reducible apply RS.move); exact rfl; exact rfl; exact rfl) | ((with_reducible apply RS.assign); exact rfl; exact rfl; exact rfl) | ((with_reducible apply RS.pickT); exact rfl; exact rfl; exact rfl; exact rfl) | ((with_reducible apply RS.pickF); exact rfl; exact rfl; exact rfl; exact rfl) | ((with_reducible apply RS.cmpT); exact rfl; exact rfl; exact rfl; exact rfl; (simp only [cmpP]; omega)) | ((with_reducible apply RS.cmpF); exact rfl; exact rfl; exact rfl; exact rfl; (simp only [cmpN]; omega)) | ((with_reducible apply RS.cmpC); exact rfl; exact rfl; exact rfl; exact rfl; exact rfl) | ((with_reducible apply RS.cmpNat); exact rfl; exact rfl; exact rfl; exact rfl; exact rfl) | ((with_reducible apply RS.add3); exact rfl; exact rfl; exact rfl; exact rfl; omega) | ((with_reducible apply RS.add1); exact rfl; exact rfl; exact rfl; exact rfl; omega) | ((with_reducible apply RS.add2); exact rfl; exact rfl; exact rfl; exact rfl; omega) | ((with_reducible apply RS.add4); exact rfl; exact rfl; exact rfl; exact rfl; omega) | ((with_reducible apply RS.sub1); exact rfl; exact rfl; exact rfl; exact rfl; omega) | ((with_reducible apply RS.addNat); exact rfl; exact rfl; exact rfl; exact rfl; omega) | ((with_reducible apply RS.subNat); exact rfl; exact rfl; exact rfl; exact rfl; omega) | ((with_reducible apply RS.addU); exact rfl; exact rfl; exact rfl; exact rfl; (first | omega | assumption)) | ((with_reducible apply RS.subUM); exact rfl; exact rfl; exact rfl; exact rfl; omega) | ((with_reducible apply RS.subU); exact rfl; exact rfl; exact rfl; exact rfl; omega) | ((with_reducible apply RS.mulU); exact rfl; exact rfl; exact rfl; exact rfl; (first | omega | assumption)) | ((with_reducible apply RS.quoU); exact rfl; exact rfl; exact rfl; exact rfl; omega) | ((with_reducible apply RS.binFit); exact rfl; exact rfl; exact rfl; exact rfl; exact rfl; omega) | ((with_reducible apply RS.bin); exact rfl; exact rfl; exact rfl; exact rfl; exact rfl) | ((with_reducible apply RS.binStr); exact rfl; exact rfl; exact rfl; exact rfl; exact rfl) | ((with_reducible apply RS.lenStr); exact rfl; exact rfl; exact rfl) | ((with_reducible apply RS.lenSl); exact rfl; exact rfl; exact rfl) | ((with_reducible apply RS.indexStr); exact rfl; exact rfl; exact rfl; exact rfl; exact rfl; omega) | ((with_reducible apply RS.not); exact rfl; exact rfl; exact rfl) | ((with_reducible apply RS.convI); exact rfl; exact rfl; exact rfl) | ((with_reducible apply RS.extract); exact rfl; exact rfl; exact rfl; exact rfl) | ((with_reducible apply RS.fieldAddr); exact rfl; exact rfl; exact rfl) | ((with_reducible apply RS.load1); exact rfl; exact rfl; exact rfl; exact rfl; exact rfl; exact rfl) | ((with_reducible apply RS.loadN); exact rfl; exact rfl; exact rfl; exact rfl; exact rfl; exact Nat.le_of_ble_eq_true rfl) | ((with_reducible apply RS.store); exact rfl; exact rfl; exact rfl; exact rfl; exact rfl; exact Nat.le_of_ble_eq_true rfl; exact rfl; exact rfl; exact rfl) | ((with_reducible apply RS.alloc); exact rfl; exact rfl) | ((with_reducible apply RS.box); exact rfl; exact rfl; exact rfl) | ((with_reducible apply RS.build); exact rfl; exact rfl; exact rfl; exact rfl) | ((with_reducible apply RS.skip); exact rfl; exact rfl) | ((with_reducible apply RS.nil); exact mixed; kernel_rfl) | ((with_reducible apply W.seq)) | ((with_reducible apply W.reg); kernel_rfl) | ((with_reducible apply W.block)) | ((with_reducible apply W.exit)) | ((with_reducible apply W.ret)) | ((with_reducible apply W.skip)) | ((with_reducible apply W.label)) | ((with_reducible apply W.condT); kernel_rfl; exact rfl) | ((with_reducible apply W.condF); kernel_rfl; exact rfl) | ((with_reducible apply thenK_n)) | ((with_reducible apply thenK_e)) | ((with_reducible apply thenK_r)) | ((with_reducible apply blockK_n)) | ((with_reducible apply blockK_r)) | ((with_reducible apply blockK_hit); exact rfl) | ((with_reducible apply blockK_miss); exact rfl) | ((with_reducible apply roundK_e)) | ((with_reducible apply roundK_r)) | ((with_reducible apply joinK_e)) | ((with_reducible apply joinK_r)))
  repeat' ((first | (((with_reducible apply RS.splitD); exact rfl; exact rfl) <;> intro _) | ((((with_reducible apply RS.splitG); exact rfl; exact rfl) <;> intro _) <;> (fail_if_success (exact absurd ‹true = false› (by decide))) <;> (fail_if_success (exact absurd ‹false = true› (by decide)))) | (((with_reducible apply W.condD); exact rfl) <;> intro _) | ((((with_reducible apply W.cond); exact rfl) <;> intro _) <;> (fail_if_success (exact absurd ‹true = false› (by decide))) <;> (fail_if_success (exact absurd ‹false = true› (by decide))))) <;> repeat (first | ((with_reducible apply RS.sliceStr); exact rfl; exact rfl; exact rfl; (first | exact ⟨_, _, rfl, rfl⟩ | exact rfl); (first | exact ⟨_, _, rfl, rfl⟩ | exact rfl); omega; omega) | ((with_reducible apply RS.indexChr); exact rfl; exact rfl; exact rfl; exact rfl; exact rfl; omega) | ((with_reducible apply RS.callP); exact rfl; exact rfl; exact rfl; exact fun H => (nl_tf _ _ (by omega) H); exact Nm_free (by simp)) | ((with_reducible apply RS.callP); exact rfl; exact rfl; exact rfl; exact fun H => (hp2_tf _ _ _ _ (by omega) H); exact Nm_free (by simp)) | ((with_reducible apply RS.callR true []); exact rfl; exact rfl; exact rfl; exact fun H hH => end_tf _ _ (by omega) hs H (hg.of hn (hH.b rfl)); exact Nm_free (by simp)) | ((with_reducible apply RS.move); exact rfl; exact rfl; exact rfl) | ((with_reducible apply RS.assign); exact rfl; exact rfl; exact rfl) | ((with_reducible apply RS.pickT); exact rfl; exact rfl; exact rfl; exact rfl) | ((with_reducible apply RS.pickF); exact rfl; exact rfl; exact rfl; exact rfl) | ((with_reducible apply RS.cmpT); exact rfl; exact rfl; exact rfl; exact rfl; (simp only [cmpP]; omega)) | ((with_reducible apply RS.cmpF); exact rfl; exact rfl; exact rfl; exact rfl; (simp only [cmpN]; omega)) | ((with_reducible apply RS.cmpC); exact rfl; exact rfl; exact rfl; exact rfl; exact rfl) | ((with_reducible apply RS.cmpNat); exact rfl; exact rfl; exact rfl; exact rfl; exact rfl) | ((with_reducible apply RS.add3); exact rfl; exact rfl; exact rfl; exact rfl; omega) | ((with_reducible apply RS.add1); exact rfl; exact rfl; exact rfl; exact rfl; omega) | ((with_reducible apply RS.add2); exact rfl; exact rfl; exact rfl; exact rfl; omega) | ((with_reducible apply RS.add4); exact rfl; exact rfl; exact rfl; exact rfl; omega) | ((with_reducible apply RS.sub1); exact rfl; exact rfl; exact rfl; exact rfl; omega) | ((with_reducible apply RS.addNat); exact rfl; exact rfl; exact rfl; exact rfl; omega) | ((with_reducible apply RS.subNat); exact rfl; exact rfl; exact rfl; exact rfl; omega) | ((with_reducible apply RS.addU); exact rfl; exact rfl; exact rfl; exact rfl; (first | omega | assumption)) | ((with_reducible apply RS.subUM); exact rfl; exact rfl; exact rfl; exact rfl; omega) | ((with_reducible apply RS.subU); exact rfl; exact rfl; exact rfl; exact rfl; omega) | ((with_reducible apply RS.mulU); exact rfl; exact rfl; exact rfl; exact rfl; (first | omega | assumption)) | ((with_reducible apply RS.quoU); exact rfl; exact rfl; exact rfl; exact rfl; omega) | ((with_reducible apply RS.binFit); exact rfl; exact rfl; exact rfl; exact rfl; exact rfl; omega) | ((with_reducible apply RS.bin); exact rfl; exact rfl; exact rfl; exact rfl; exact rfl) | ((with_reducible apply RS.binStr); exact rfl; exact rfl; exact rfl; exact rfl; exact rfl) | ((with_reducible apply RS.lenStr); exact rfl; exact rfl; exact rfl) | ((with_reducible apply RS.lenSl); exact rfl; exact rfl; exact rfl) | ((with_reducible apply RS.indexStr); exact rfl; exact rfl; exact rfl; exact rfl; exact rfl; omega) | ((with_reducible apply RS.not); exact rfl; exact rfl; exact rfl) | ((with_reducible apply RS.convI); exact rfl; exact rfl; exact rfl) | ((with_reducible apply RS.extract); exact rfl; exact rfl; exact rfl; exact rfl) | ((with_reducible apply RS.fieldAddr); exact rfl; exact rfl; exact rfl) | ((with_reducible apply RS.load1); exact rfl; exact rfl; exact rfl; exact rfl; exact rfl; exact rfl) | ((with_reducible apply RS.loadN); exact rfl; exact rfl; exact rfl; exact rfl; exact rfl; exact Nat.le_of_ble_eq_true rfl) | ((with_reducible apply RS.store); exact rfl; exact rfl; exact rfl; exact rfl; exact rfl; exact Nat.le_of_ble_eq_true rfl; exact rfl; exact rfl; exact rfl) | ((with_reducible apply RS.alloc); exact rfl; exact rfl) | ((with_reducible apply RS.box); exact rfl; exact rfl; exact rfl) | ((with_reducible apply RS.build); exact rfl; exact rfl; exact rfl; exact rfl) | ((with_reducible apply RS.skip); exact rfl; exact rfl) | ((with_reducible apply RS.nil); exact mixed; kernel_rfl) | ((with_reducible apply W.seq)) | ((with_reducible apply W.reg); kernel_rfl) | ((with_reducible apply W.block)) | ((with_reducible apply W.exit)) | ((with_reducible apply W.ret)) | ((with_reducible apply W.skip)) | ((with_reducible apply W.label)) | ((with_reducible apply W.condT); kernel_rfl; exact rfl) | ((with_reducible apply W.condF); kernel_rfl; exact rfl) | ((with_reducible apply thenK_n)) | ((with_reducible apply thenK_e)) | ((with_reducible apply thenK_r)) | ((with_reducible apply blockK_n)) | ((with_reducible apply blockK_r)) | ((with_reducible apply blockK_hit); exact rfl) | ((with_reducible apply blockK_miss); exact rfl) | ((with_reducible apply roundK_e)) | ((with_reducible apply roundK_r)) | ((with_reducible apply joinK_e)) | ((with_reducible apply joinK_r))))
  all_goals first
    | (exfalso; omega)
    | skip
  rotate_left 6
  · rename_i hc
    have hk1 : k + 1 < s.size := by
      by_cases h0 : k + 1 < s.size
      · exact h0
      · rw [chr_ge h0] at hc; exact absurd hc.2 (by decide)
    repeat (first | ((with_reducible apply RS.sliceStr); exact rfl; exact rfl; exact rfl; (first | exact ⟨_, _, rfl, rfl⟩ | exact rfl); (first | exact ⟨_, _, rfl, rfl⟩ | exact rfl); omega; omega) | ((with_reducible apply RS.indexChr); exact rfl; exact rfl; exact rfl; exact rfl; exact rfl; omega) | ((with_reducible apply RS.callP); exact rfl; exact rfl; exact rfl; exact fun H => (nl_tf _ _ (by omega) H); exact Nm_free (by simp)) | ((with_reducible apply RS.callP); exact rfl; exact rfl; exact rfl; exact fun H => (hp2_tf _ _ _ _ (by omega) H); exact Nm_free (by simp)) | ((with_reducible apply RS.callR true []); exact rfl; exact rfl; exact rfl; exact fun H hH => end_tf _ _ (by omega) hs H (hg.of hn (hH.b rfl)); exact Nm_free (by simp)) | ((with_reducible apply RS.move); exact rfl; exact rfl; exact rfl) | ((with_reducible apply RS.assign); exact rfl; exact rfl; exact rfl) | ((with_reducible apply RS.pickT); exact rfl; exact rfl; exact rfl; exact rfl) | ((with_reducible apply RS.pickF); exact rfl; exact rfl; exact rfl; exact rfl) | ((with_reducible apply RS.cmpT); exact rfl; exact rfl; exact rfl; exact rfl; (simp only [cmpP]; omega)) | ((with_reducible apply RS.cmpF); exact rfl; exact rfl; exact rfl; exact rfl; (simp only [cmpN]; omega)) | ((with_reducible apply RS.cmpC); exact rfl; exact rfl; exact rfl; exact rfl; exact rfl) | ((with_reducible apply RS.cmpNat); exact rfl; exact rfl; exact rfl; exact rfl; exact rfl) | ((with_reducible apply RS.add3); exact rfl; exact rfl; exact rfl; exact rfl; omega) | ((with_reducible apply RS.add1); exact rfl; exact rfl; exact rfl; exact rfl; omega) | ((with_reducible apply RS.add2); exact rfl; exact rfl; exact rfl; exact rfl; omega) | ((with_reducible apply RS.add4); exact rfl; exact rfl; exact rfl; exact rfl; omega) | ((with_reducible apply RS.sub1); exact rfl; exact rfl; exact rfl; exact rfl; omega) | ((with_reducible apply RS.addNat); exact rfl; exact rfl; exact rfl; exact rfl; omega) | ((with_reducible apply RS.subNat); exact rfl; exact rfl; exact rfl; exact rfl; omega) | ((with_reducible apply RS.addU); exact rfl; exact rfl; exact rfl; exact rfl; (first | omega | assumption)) | ((with_reducible apply RS.subUM); exact rfl; exact rfl; exact rfl; exact rfl; omega) | ((with_reducible apply RS.subU); exact rfl; exact rfl; exact rfl; exact rfl; omega) | ((with_reducible apply RS.mulU); exact rfl; exact rfl; exact rfl; exact rfl; (first | omega | assumption)) | ((with_reducible apply RS.quoU); exact rfl; exact rfl; exact rfl; exact rfl; omega) | ((with_reducible apply RS.binFit); exact rfl; exact rfl; exact rfl; exact rfl; exact rfl; omega) | ((with_reducible apply RS.bin); exact rfl; exact rfl; exact rfl; exact rfl; exact rfl) | ((with_reducible apply RS.binStr); exact rfl; exact rfl; exact rfl; exact rfl; exact rfl) | ((with_reducible apply RS.lenStr); exact rfl; exact rfl; exact rfl) | ((with_reducible apply RS.lenSl); exact rfl; exact rfl; exact rfl) | ((with_reducible apply RS.indexStr); exact rfl; exact rfl; exact rfl; exact rfl; exact rfl; omega) | ((with_reducible apply RS.not); exact rfl; exact rfl; exact rfl) | ((with_reducible apply RS.convI); exact rfl; exact rfl; exact rfl) | ((with_reducible apply RS.extract); exact rfl; exact rfl; exact rfl; exact rfl) | ((with_reducible apply RS.fieldAddr); exact rfl; exact rfl; exact rfl) | ((with_reducible apply RS.load1); exact rfl; exact rfl; exact rfl; exact rfl; exact rfl; exact rfl) | ((with_reducible apply RS.loadN); exact rfl; exact rfl; exact rfl; exact rfl; exact rfl; exact Nat.le_of_ble_eq_true rfl) | ((with_reducible apply RS.store); exact rfl; exact rfl; exact rfl; exact rfl; exact rfl; exact Nat.le_of_ble_eq_true rfl; exact rfl; exact rfl; exact rfl) | ((with_reducible apply RS.alloc); exact rfl; exact rfl) | ((with_reducible apply RS.box); exact rfl; exact rfl; exact rfl) | ((with_reducible apply RS.build); exact rfl; exact rfl; exact rfl; exact rfl) | ((with_reducible apply RS.skip); exact rfl; exact rfl) | ((with_reducible apply RS.nil); exact mixed; kernel_rfl) | ((with_reducible apply W.seq)) | ((with_reducible apply W.reg); kernel_rfl) | ((with_reducible apply W.block)) | ((with_reducible apply W.exit)) | ((with_reducible apply W.ret)) | ((with_reducible apply W.skip)) | ((with_reducible apply W.label)) | ((with_reducible apply W.condT); kernel_rfl; exact rfl) | ((with_reducible apply W.condF); kernel_rfl; exact rfl) | ((with_reducible apply thenK_n)) | ((with_reducible apply thenK_e)) | ((with_reducible apply thenK_r)) | ((with_reducible apply blockK_n)) | ((with_reducible apply blockK_r)) | ((with_reducible apply blockK_hit); exact rfl) | ((with_reducible apply blockK_miss); exact rfl) | ((with_reducible apply roundK_e)) | ((with_reducible apply roundK_r)) | ((with_reducible apply joinK_e)) | ((with_reducible apply joinK_r)))
    repeat' ((first | (((with_reducible apply RS.splitD); exact rfl; exact rfl) <;> intro _) | ((((with_reducible apply RS.splitG); exact rfl; exact rfl) <;> intro _) <;> (fail_if_success (exact absurd ‹true = false› (by decide))) <;> (fail_if_success (exact absurd ‹false = true› (by decide)))) | (((with_reducible apply W.condD); exact rfl) <;> intro _) | ((((with_reducible apply W.cond); exact rfl) <;> intro _) <;> (fail_if_success (exact absurd ‹true = false› (by decide))) <;> (fail_if_success (exact absurd ‹false = true› (by decide))))) <;> repeat (first | ((with_reducible apply RS.sliceStr); exact rfl; exact rfl; exact rfl; (first | exact ⟨_, _, rfl, rfl⟩ | exact rfl); (first | exact ⟨_, _, rfl, rfl⟩ | exact rfl); omega; omega) | ((with_reducible apply RS.indexChr); exact rfl; exact rfl; exact rfl; exact rfl; exact rfl; omega) | ((with_reducible apply RS.callP); exact rfl; exact rfl; exact rfl; exact fun H => (nl_tf _ _ (by omega) H); exact Nm_free (by simp)) | ((with_reducible apply RS.callP); exact rfl; exact rfl; exact rfl; exact fun H => (hp2_tf _ _ _ _ (by omega) H); exact Nm_free (by simp)) | ((with_reducible apply RS.callR true []); exact rfl; exact rfl; exact rfl; exact fun H hH => end_tf _ _ (by omega) hs H (hg.of hn (hH.b rfl)); exact Nm_free (by simp)) | ((with_reducible apply RS.move); exact rfl; exact rfl; exact rfl) | ((with_reducible apply RS.assign); exact rfl; exact rfl; exact rfl) | ((with_reducible apply RS.pickT); exact rfl; exact rfl; exact rfl; exact rfl) | ((with_reducible apply RS.pickF); exact rfl; exact rfl; exact rfl; exact rfl) | ((with_reducible apply RS.cmpT); exact rfl; exact rfl; exact rfl; exact rfl; (simp only [cmpP]; omega)) | ((with_reducible apply RS.cmpF); exact rfl; exact rfl; exact rfl; exact rfl; (simp only [cmpN]; omega)) | ((with_reducible apply RS.cmpC); exact rfl; exact rfl; exact rfl; exact rfl; exact rfl) | ((with_reducible apply RS.cmpNat); exact rfl; exact rfl; exact rfl; exact rfl; exact rfl) | ((with_reducible apply RS.add3); exact rfl; exact rfl; exact rfl; exact rfl; omega) | ((with_reducible apply RS.add1); exact rfl; exact rfl; exact rfl; exact rfl; omega) | ((with_reducible apply RS.add2); exact rfl; exact rfl; exact rfl; exact rfl; omega) | ((with_reducible apply RS.add4); exact rfl; exact rfl; exact rfl; exact rfl; omega) | ((with_reducible apply RS.sub1); exact rfl; exact rfl; exact rfl; exact rfl; omega) | ((with_reducible apply RS.addNat); exact rfl; exact rfl; exact rfl; exact rfl; omega) | ((with_reducible apply RS.subNat); exact rfl; exact rfl; exact rfl; exact rfl; omega) | ((with_reducible apply RS.addU); exact rfl; exact rfl; exact rfl; exact rfl; (first | omega | assumption)) | ((with_reducible apply RS.subUM); exact rfl; exact rfl; exact rfl; exact rfl; omega) | ((with_reducible apply RS.subU); exact rfl; exact rfl; exact rfl; exact rfl; omega) | ((with_reducible apply RS.mulU); exact rfl; exact rfl; exact rfl; exact rfl; (first | omega | assumption)) | ((with_reducible apply RS.quoU); exact rfl; exact rfl; exact rfl; exact rfl; omega) | ((with_reducible apply RS.binFit); exact rfl; exact rfl; exact rfl; exact rfl; exact rfl; omega) | ((with_reducible apply RS.bin); exact rfl; exact rfl; exact rfl; exact rfl; exact rfl) | ((with_reducible apply RS.binStr); exact rfl; exact rfl; exact rfl; exact rfl; exact rfl) | ((with_reducible apply RS.lenStr); exact rfl; exact rfl; exact rfl) | ((with_reducible apply RS.lenSl); exact rfl; exact rfl; exact rfl) | ((with_reducible apply RS.indexStr); exact rfl; exact rfl; exact rfl; exact rfl; exact rfl; omega) | ((with_reducible apply RS.not); exact rfl; exact rfl; exact rfl) | ((with_reducible apply RS.convI); exact rfl; exact rfl; exact rfl) | ((with_reducible apply RS.extract); exact rfl; exact rfl; exact rfl; exact rfl) | ((with_reducible apply RS.fieldAddr); exact rfl; exact rfl; exact rfl) | ((with_reducible apply RS.load1); exact rfl; exact rfl; exact rfl; exact rfl; exact rfl; exact rfl) | ((with_reducible apply RS.loadN); exact rfl; exact rfl; exact rfl; exact rfl; exact rfl; exact Nat.le_of_ble_eq_true rfl) | ((with_reducible apply RS.store); exact rfl; exact rfl; exact rfl; exact rfl; exact rfl; exact Nat.le_of_ble_eq_true rfl; exact rfl; exact rfl; exact rfl) | ((with_reducible apply RS.alloc); exact rfl; exact rfl) | ((with_reducible apply RS.box); exact rfl; exact rfl; exact rfl) | ((with_reducible apply RS.build); exact rfl; exact rfl; exact rfl; exact rfl) | ((with_reducible apply RS.skip); exact rfl; exact rfl) | ((with_reducible apply RS.nil); exact mixed; kernel_rfl) | ((with_reducible apply W.seq)) | ((with_reducible apply W.reg); kernel_rfl) | ((with_reducible apply W.block)) | ((with_reducible apply W.exit)) | ((with_reducible apply W.ret)) | ((with_reducible apply W.skip)) | ((with_reducible apply W.label)) | ((with_reducible apply W.condT); kernel_rfl; exact rfl) | ((with_reducible apply W.condF); kernel_rfl; exact rfl) | ((with_reducible apply thenK_n)) | ((with_reducible apply thenK_e)) | ((with_reducible apply thenK_r)) | ((with_reducible apply blockK_n)) | ((with_reducible apply blockK_r)) | ((with_reducible apply blockK_hit); exact rfl) | ((with_reducible apply blockK_miss); exact rfl) | ((with_reducible apply roundK_e)) | ((with_reducible apply roundK_r)) | ((with_reducible apply joinK_e)) | ((with_reducible apply joinK_r))))
    all_goals obtain ⟨m, rfl⟩ : ∃ m, n = m + 1 := ⟨n - 1, by omega⟩
    all_goals rw [blankF2, if_neg (by simp [blankI, *]), if_neg (by assumption), if_pos (by assumption)] at q1
    · rename_i he
      unfold endI at he
      cases hq : endC s (k + 2) with
      | none =>
        rw [hq] at q1
        refine endsK_ret _ (.cons (.tmp rfl) (.cons (.tmp rfl) .nil)) ⟨rfl, ?_⟩
        rw [← q1]; rfl
      | some i => rw [hq] at he; simp only at he; omega
    · rename_i he
      cases hq : endC s (k + 2) with
      | none => unfold endI at he; rw [hq] at he; simp only at he; omega
      | some i =>
        rw [hq] at q1
        have hv : endI s (k + 2) = ((i - (k + 2) : Nat) : Int) := by unfold endI; rw [hq]
        have hi := endC_ok s _ _ i rfl hq
        refine roundK_n (i + 2, m) [] rfl rfl ⟨q1, by simp only; omega, by simp only; omega⟩ (by simp only; omega) ⟨⟨rfl, ?_, trivial⟩, rfl, trivial, rfl⟩
        show some (Value.int IntKind.i64 (_ : Int)) = some (Value.int IntKind.i64 (_ : Int))
        congr 2
        rw [hv]; simp only; omega
  · obtain ⟨m, rfl⟩ : ∃ m, n = m + 1 := ⟨n - 1, by omega⟩
    rw [blankF2, if_neg (by simp [blankI, *]), if_neg (by assumption), if_neg (by assumption)] at q1
    refine endsK_ret _ (.cons (.tmp rfl) (.cons (.tmp rfl) .nil)) ⟨rfl, ?_⟩
    rw [← q1]; rfl
  · rw [blankF2_end (by assumption)] at q1
    refine endsK_ret _ (.cons (.tmp rfl) (.cons (.tmp rfl) .nil)) ⟨rfl, ?_⟩
    rw [← q1]; rfl
  iterate 4
    obtain ⟨m, rfl⟩ : ∃ m, n = m + 1 := ⟨n - 1, by omega⟩
    rw [blankF2, if_pos (by simp [blankI, *])] at q1
    refine roundK_n (k + 1, m) [] rfl rfl ⟨q1, by simp only; omega, by simp only; omega⟩ (by simp only; omega) (by (refine FitL.mk ?_ ?_ ?_ ?_ <;> (repeat' (first | exact trivial | exact rfl | apply And.intro)); done))
  · rename_i he
    obtain ⟨m, rfl⟩ : ∃ m, n = m + 1 := ⟨n - 1, by omega⟩
    rw [blankF2, if_neg (by simp [blankI, *]), if_pos (by assumption)] at q1
    have hz : nl s k = s.size := by
      by_cases h0 : nl s k < s.size
      · rw [if_pos h0] at he; omega
      · have := hnl.2.1 q2; omega
    rw [hz, blankF2_end (by omega)] at q1
    refine endsK_ret _ (.cons (.tmp rfl) (.cons (.tmp rfl) .nil)) ⟨rfl, ?_⟩
    rw [← q1]; rfl
  · rename_i hc he
    obtain ⟨m, rfl⟩ : ∃ m, n = m + 1 := ⟨n - 1, by omega⟩
    rw [blankF2, if_neg (by simp [blankI, *]), if_pos (by assumption)] at q1
    have hz : nl s k < s.size := by
      by_cases h0 : nl s k < s.size
      · exact h0
      · rw [if_neg h0] at he; omega
    have hgt := nl_gt hc.1
    refine roundK_n (nl s k, m) [] rfl rfl ⟨q1, by simp only; omega, by simp only; omega⟩ (by simp only; omega) ⟨⟨rfl, ?_, trivial⟩, rfl, trivial, rfl⟩
    show some (Value.int IntKind.i64 (_ : Int)) = some (Value.int IntKind.i64 (_ : Int))
    rw [if_pos hz]
    congr 2
    simp only; omega
end Go.Proofs.YtghpaggkbpdmkaaDoor
namespace Go.Proofs.YtghpaggkbpdmkaaDoor
open Go.AH
attribute [local irreducible] W RS
section
variable {P : Program} {ops : Array Oper} {draw : Bool} {rs : List Rk} {l : List Oper} {fl : List (Nat × Value)} {nt : Nat} {h : SH} {K : Fr → SH → Prop} {d : Tmp} {ty : TypeId} {pos : String} {af : Array Edge} {gd : Option (Nat × Bool)}
theorem RS.indexChr0 {t : TypeId} {x y : Operand} {s : ByteArray} {k : IntKind} [hu : TyU P t .string] (hw : wantB ops ⟨some d, .index t x y, ty, pos, af, gd⟩ ⟨fl, nt⟩ = some true) (hd : Nat.blt d nt = true) (hx : Fr.ev ⟨fl, nt⟩ x = some (.string s)) (hy : Fr.ev ⟨fl, nt⟩ y = some (.int k 0)) (hn : 0 < s.size)
    (hk : RS P ops draw (recP h.k false [] (some []) :: rs) l ⟨(d, .int .u8 (chr s 0)) :: fl, nt⟩ h K) : RS P ops draw rs (⟨some d, .index t x y, ty, pos, af, gd⟩ :: l) ⟨fl, nt⟩ h K := RS.indexChr (n := 0) hw hd hx hy rfl hn hk
theorem RS.indexChr1 {t : TypeId} {x y : Operand} {s : ByteArray} {k : IntKind} [hu : TyU P t .string] (hw : wantB ops ⟨some d, .index t x y, ty, pos, af, gd⟩ ⟨fl, nt⟩ = some true) (hd : Nat.blt d nt = true) (hx : Fr.ev ⟨fl, nt⟩ x = some (.string s)) (hy : Fr.ev ⟨fl, nt⟩ y = some (.int k 1)) (hn : 1 < s.size)
    (hk : RS P ops draw (recP h.k false [] (some []) :: rs) l ⟨(d, .int .u8 (chr s 1)) :: fl, nt⟩ h K) : RS P ops draw rs (⟨some d, .index t x y, ty, pos, af, gd⟩ :: l) ⟨fl, nt⟩ h K := RS.indexChr (n := 1) hw hd hx hy rfl hn hk
theorem RS.indexChr2 {t : TypeId} {x y : Operand} {s : ByteArray} {k : IntKind} [hu : TyU P t .string] (hw : wantB ops ⟨some d, .index t x y, ty, pos, af, gd⟩ ⟨fl, nt⟩ = some true) (hd : Nat.blt d nt = true) (hx : Fr.ev ⟨fl, nt⟩ x = some (.string s)) (hy : Fr.ev ⟨fl, nt⟩ y = some (.int k 2)) (hn : 2 < s.size)
    (hk : RS P ops draw (recP h.k false [] (some []) :: rs) l ⟨(d, .int .u8 (chr s 2)) :: fl, nt⟩ h K) : RS P ops draw rs (⟨some d, .index t x y, ty, pos, af, gd⟩ :: l) ⟨fl, nt⟩ h K := RS.indexChr (n := 2) hw hd hx hy rfl hn hk
theorem RS.indexChr3 {t : TypeId} {x y : Operand} {s : ByteArray} {k : IntKind} [hu : TyU P t .string] (hw : wantB ops ⟨some d, .index t x y, ty, pos, af, gd⟩ ⟨fl, nt⟩ = some true) (hd : Nat.blt d nt = true) (hx : Fr.ev ⟨fl, nt⟩ x = some (.string s)) (hy : Fr.ev ⟨fl, nt⟩ y = some (.int k 3)) (hn : 3 < s.size)
    (hk : RS P ops draw (recP h.k false [] (some []) :: rs) l ⟨(d, .int .u8 (chr s 3)) :: fl, nt⟩ h K) : RS P ops draw rs (⟨some d, .index t x y, ty, pos, af, gd⟩ :: l) ⟨fl, nt⟩ h K := RS.indexChr (n := 3) hw hd hx hy rfl hn hk
end
theorem esc_size (c : Int) : (escI c).toNat < (⟨#[10, 9, 0, 92, 39]⟩ : ByteArray).size := by
  show (escI c).toNat < 5
  unfold escI
  repeat' split
  all_goals decide
theorem esc_val (c : Int) (h : ¬ escI c < 0) : IntKind.u64.wrap (chr ⟨#[10, 9, 0, 92, 39]⟩ (escI c).toNat) = (escV c : Int) := by
  unfold escI escV at *
  by_cases h1 : c = 110
  · simp only [h1, if_true]; decide +kernel
  by_cases h2 : c = 116
  · subst h2; decide +kernel
  by_cases h3 : c = 48
  · subst h3; decide +kernel
  by_cases h4 : c = 92
  · subst h4; decide +kernel
  by_cases h5 : c = 39
  · subst h5; decide +kernel
  · simp [h1, h2, h3, h4, h5] at h
set_option maxHeartbeats 4000000 in
theorem char_tf (s : ByteArray) (p : Nat) (hp : p < s.size) (hs : s.size ≤ 1000000) (h : Hp) : TF Tryd.prog 23 ⟨[.string s, .int .i64 p]⟩ h (.tuple ⟨[tokV (charS s p).1, .bool (charS s p).2]⟩) h := by
  have hz := size_tail s (p := p + 1)
  have ht : ∀ i, chr (s.extract (p + 1) s.size) i = chr s (p + 1 + i) := fun i => chr_tail
  refine TF.still (fn := Tryd.f23) (c := (Tryd.f23.body.getD .skip)) Tryd.func23 (by kernel_rfl) Tryd.ntmps23 (by kernel_rfl) (by (simp [tokV])) ?_
  conv => arg 2; whnf
  repeat (first | ((with_reducible apply RS.sliceStr); exact rfl; exact rfl; exact rfl; (first | exact ⟨_, _, rfl, rfl⟩ | exact rfl); (first | exact ⟨_, _, rfl, rfl⟩ | exact rfl); omega; omega) | ((with_reducible apply RS.indexChr0); exact rfl; exact rfl; exact rfl; exact rfl; omega) | ((with_reducible apply RS.indexChr1); exact rfl; exact rfl; exact rfl; exact rfl; omega) | ((with_reducible apply RS.indexChr2); exact rfl; exact rfl; exact rfl; exact rfl; omega) | ((with_reducible apply RS.indexChr3); exact rfl; exact rfl; exact rfl; exact rfl; omega) | ((with_reducible apply RS.indexChr); exact rfl; exact rfl; exact rfl; exact rfl; exact rfl; omega) | ((with_reducible apply RS.callP); exact rfl; exact rfl; exact rfl; exact fun H => (esc_tf _ (chr_nn (by omega)) (chr_le _ _) H); exact Nm_free (by simp)) | ((with_reducible apply RS.indexChr); exact rfl; exact rfl; exact rfl; exact rfl; exact (Int.toNat_of_nonneg (by omega)).symm; exact esc_size _) | ((with_reducible apply RS.move); exact rfl; exact rfl; exact rfl) | ((with_reducible apply RS.assign); exact rfl; exact rfl; exact rfl) | ((with_reducible apply RS.pickT); exact rfl; exact rfl; exact rfl; exact rfl) | ((with_reducible apply RS.pickF); exact rfl; exact rfl; exact rfl; exact rfl) | ((with_reducible apply RS.cmpT); exact rfl; exact rfl; exact rfl; exact rfl; (simp only [cmpP]; omega)) | ((with_reducible apply RS.cmpF); exact rfl; exact rfl; exact rfl; exact rfl; (simp only [cmpN]; omega)) | ((with_reducible apply RS.cmpC); exact rfl; exact rfl; exact rfl; exact rfl; exact rfl) | ((with_reducible apply RS.cmpNat); exact rfl; exact rfl; exact rfl; exact rfl; exact rfl) | ((with_reducible apply RS.add3); exact rfl; exact rfl; exact rfl; exact rfl; omega) | ((with_reducible apply RS.add1); exact rfl; exact rfl; exact rfl; exact rfl; omega) | ((with_reducible apply RS.add2); exact rfl; exact rfl; exact rfl; exact rfl; omega) | ((with_reducible apply RS.add4); exact rfl; exact rfl; exact rfl; exact rfl; omega) | ((with_reducible apply RS.sub1); exact rfl; exact rfl; exact rfl; exact rfl; omega) | ((with_reducible apply RS.addNat); exact rfl; exact rfl; exact rfl; exact rfl; omega) | ((with_reducible apply RS.subNat); exact rfl; exact rfl; exact rfl; exact rfl; omega) | ((with_reducible apply RS.addU); exact rfl; exact rfl; exact rfl; exact rfl; (first | omega | assumption)) | ((with_reducible apply RS.subUM); exact rfl; exact rfl; exact rfl; exact rfl; omega) | ((with_reducible apply RS.subU); exact rfl; exact rfl; exact rfl; exact rfl; omega) | ((with_reducible apply RS.mulU); exact rfl; exact rfl; exact rfl; exact rfl; (first | omega | assumption)) | ((with_reducible apply RS.quoU); exact rfl; exact rfl; exact rfl; exact rfl; omega) | ((with_reducible apply RS.binFit); exact rfl; exact rfl; exact rfl; exact rfl; exact rfl; omega) | ((with_reducible apply RS.bin); exact rfl; exact rfl; exact rfl; exact rfl; exact rfl) | ((with_reducible apply RS.binStr); exact rfl; exact rfl; exact rfl; exact rfl; exact rfl) | ((with_reducible apply RS.lenStr); exact rfl; exact rfl; exact rfl) | ((with_reducible apply RS.lenSl); exact rfl; exact rfl; exact rfl) | ((with_reducible apply RS.indexStr); exact rfl; exact rfl; exact rfl; exact rfl; exact rfl; omega) | ((with_reducible apply RS.not); exact rfl; exact rfl; exact rfl) | ((with_reducible apply RS.convI); exact rfl; exact rfl; exact rfl) | ((with_reducible apply RS.extract); exact rfl; exact rfl; exact rfl; exact rfl) | ((with_reducible apply RS.fieldAddr); exact rfl; exact rfl; exact rfl) | ((with_reducible apply RS.load1); exact rfl; exact rfl; exact rfl; exact rfl; exact rfl; exact rfl) | ((with_reducible apply RS.loadN); exact rfl; exact rfl; exact rfl; exact rfl; exact rfl; exact Nat.le_of_ble_eq_true rfl) | ((with_reducible apply RS.store); exact rfl; exact rfl; exact rfl; exact rfl; exact rfl; exact Nat.le_of_ble_eq_true rfl; exact rfl; exact rfl; exact rfl) | ((with_reducible apply RS.alloc); exact rfl; exact rfl) | ((with_reducible apply RS.box); exact rfl; exact rfl; exact rfl) | ((with_reducible apply RS.build); exact rfl; exact rfl; exact rfl; exact rfl) | ((with_reducible apply RS.skip); exact rfl; exact rfl) | ((with_reducible apply RS.nil); exact mixed; kernel_rfl) | ((with_reducible apply W.seq)) | ((with_reducible apply W.reg); kernel_rfl) | ((with_reducible apply W.block)) | ((with_reducible apply W.exit)) | ((with_reducible apply W.ret)) | ((with_reducible apply W.skip)) | ((with_reducible apply W.label)) | ((with_reducible apply W.condT); kernel_rfl; exact rfl) | ((with_reducible apply W.condF); kernel_rfl; exact rfl) | ((with_reducible apply thenK_n)) | ((with_reducible apply thenK_e)) | ((with_reducible apply thenK_r)) | ((with_reducible apply blockK_n)) | ((with_reducible apply blockK_r)) | ((with_reducible apply blockK_hit); exact rfl) | ((with_reducible apply blockK_miss); exact rfl) | ((with_reducible apply roundK_e)) | ((with_reducible apply roundK_r)) | ((with_reducible apply joinK_e)) | ((with_reducible apply joinK_r)))
  generalize s.extract (p + 1) s.size = r at *
  have t0 : chr r 0 = chr s (p + 1) := ht 0
  have t1 : chr r 1 = chr s (p + 2) := ht 1
  have t2 : chr r 2 = chr s (p + 3) := ht 2
  have c3 : ¬ ((r.size : Int) ≥ 3) → chr s (p + 3) = -1 := fun hx => chr_ge (by omega)
  have c2 : ¬ ((r.size : Int) ≥ 2) → chr s (p + 2) = -1 := fun hx => chr_ge (by omega)
  repeat' ((first | (((with_reducible apply RS.splitD); exact rfl; exact rfl) <;> intro _) | ((((with_reducible apply RS.splitG); exact rfl; exact rfl) <;> intro _) <;> (fail_if_success (exact absurd ‹true = false› (by decide))) <;> (fail_if_success (exact absurd ‹false = true› (by decide)))) | (((with_reducible apply W.condD); exact rfl) <;> intro _) | ((((with_reducible apply W.cond); exact rfl) <;> intro _) <;> (fail_if_success (exact absurd ‹true = false› (by decide))) <;> (fail_if_success (exact absurd ‹false = true› (by decide))))) <;> repeat (first | ((with_reducible apply RS.sliceStr); exact rfl; exact rfl; exact rfl; (first | exact ⟨_, _, rfl, rfl⟩ | exact rfl); (first | exact ⟨_, _, rfl, rfl⟩ | exact rfl); omega; omega) | ((with_reducible apply RS.indexChr0); exact rfl; exact rfl; exact rfl; exact rfl; omega) | ((with_reducible apply RS.indexChr1); exact rfl; exact rfl; exact rfl; exact rfl; omega) | ((with_reducible apply RS.indexChr2); exact rfl; exact rfl; exact rfl; exact rfl; omega) | ((with_reducible apply RS.indexChr3); exact rfl; exact rfl; exact rfl; exact rfl; omega) | ((with_reducible apply RS.indexChr); exact rfl; exact rfl; exact rfl; exact rfl; exact rfl; omega) | ((with_reducible apply RS.callP); exact rfl; exact rfl; exact rfl; exact fun H => (esc_tf _ (chr_nn (by omega)) (chr_le _ _) H); exact Nm_free (by simp)) | ((with_reducible apply RS.indexChr); exact rfl; exact rfl; exact rfl; exact rfl; exact (Int.toNat_of_nonneg (by omega)).symm; exact esc_size _) | ((with_reducible apply RS.move); exact rfl; exact rfl; exact rfl) | ((with_reducible apply RS.assign); exact rfl; exact rfl; exact rfl) | ((with_reducible apply RS.pickT); exact rfl; exact rfl; exact rfl; exact rfl) | ((with_reducible apply RS.pickF); exact rfl; exact rfl; exact rfl; exact rfl) | ((with_reducible apply RS.cmpT); exact rfl; exact rfl; exact rfl; exact rfl; (simp only [cmpP]; omega)) | ((with_reducible apply RS.cmpF); exact rfl; exact rfl; exact rfl; exact rfl; (simp only [cmpN]; omega)) | ((with_reducible apply RS.cmpC); exact rfl; exact rfl; exact rfl; exact rfl; exact rfl) | ((with_reducible apply RS.cmpNat); exact rfl; exact rfl; exact rfl; exact rfl; exact rfl) | ((with_reducible apply RS.add3); exact rfl; exact rfl; exact rfl; exact rfl; omega) | ((with_reducible apply RS.add1); exact rfl; exact rfl; exact rfl; exact rfl; omega) | ((with_reducible apply RS.add2); exact rfl; exact rfl; exact rfl; exact rfl; omega) | ((with_reducible apply RS.add4); exact rfl; exact rfl; exact rfl; exact rfl; omega) | ((with_reducible apply RS.sub1); exact rfl; exact rfl; exact rfl; exact rfl; omega) | ((with_reducible apply RS.addNat); exact rfl; exact rfl; exact rfl; exact rfl; omega) | ((with_reducible apply RS.subNat); exact rfl; exact rfl; exact rfl; exact rfl; omega) | ((with_reducible apply RS.addU); exact rfl; exact rfl; exact rfl; exact rfl; (first | omega | assumption)) | ((with_reducible apply RS.subUM); exact rfl; exact rfl; exact rfl; exact rfl; omega) | ((with_reducible apply RS.subU); exact rfl; exact rfl; exact rfl; exact rfl; omega) | ((with_reducible apply RS.mulU); exact rfl; exact rfl; exact rfl; exact rfl; (first | omega | assumption)) | ((with_reducible apply RS.quoU); exact rfl; exact rfl; exact rfl; exact rfl; omega) | ((with_reducible apply RS.binFit); exact rfl; exact rfl; exact rfl; exact rfl; exact rfl; omega) | ((with_reducible apply RS.bin); exact rfl; exact rfl; exact rfl; exact rfl; exact rfl) | ((with_reducible apply RS.binStr); exact rfl; exact rfl; exact rfl; exact rfl; exact rfl) | ((with_reducible apply RS.lenStr); exact rfl; exact rfl; exact rfl) | ((with_reducible apply RS.lenSl); exact rfl; exact rfl; exact rfl) | ((with_reducible apply RS.indexStr); exact rfl; exact rfl; exact rfl; exact rfl; exact rfl; omega) | ((with_reducible apply RS.not); exact rfl; exact rfl; exact rfl) | ((with_reducible apply RS.convI); exact rfl; exact rfl; exact rfl) | ((with_reducible apply RS.extract); exact rfl; exact rfl; exact rfl; exact rfl) | ((with_reducible apply RS.fieldAddr); exact rfl; exact rfl; exact rfl) | ((with_reducible apply RS.load1); exact rfl; exact rfl; exact rfl; exact rfl; exact rfl; exact rfl) | ((with_reducible apply RS.loadN); exact rfl; exact rfl; exact rfl; exact rfl; exact rfl; exact Nat.le_of_ble_eq_true rfl) | ((with_reducible apply RS.store); exact rfl; exact rfl; exact rfl; exact rfl; exact rfl; exact Nat.le_of_ble_eq_true rfl; exact rfl; exact rfl; exact rfl) | ((with_reducible apply RS.alloc); exact rfl; exact rfl) | ((with_reducible apply RS.box); exact rfl; exact rfl; exact rfl) | ((with_reducible apply RS.build); exact rfl; exact rfl; exact rfl; exact rfl) | ((with_reducible apply RS.skip); exact rfl; exact rfl) | ((with_reducible apply RS.nil); exact mixed; kernel_rfl) | ((with_reducible apply W.seq)) | ((with_reducible apply W.reg); kernel_rfl) | ((with_reducible apply W.block)) | ((with_reducible apply W.exit)) | ((with_reducible apply W.ret)) | ((with_reducible apply W.skip)) | ((with_reducible apply W.label)) | ((with_reducible apply W.condT); kernel_rfl; exact rfl) | ((with_reducible apply W.condF); kernel_rfl; exact rfl) | ((with_reducible apply thenK_n)) | ((with_reducible apply thenK_e)) | ((with_reducible apply thenK_r)) | ((with_reducible apply blockK_n)) | ((with_reducible apply blockK_r)) | ((with_reducible apply blockK_hit); exact rfl) | ((with_reducible apply blockK_miss); exact rfl) | ((with_reducible apply roundK_e)) | ((with_reducible apply roundK_r)) | ((with_reducible apply joinK_e)) | ((with_reducible apply joinK_r))))
  all_goals refine endsK_ret _ (.cons (.cellN rfl rfl rfl (Nat.le_of_ble_eq_true rfl)) (.cons (.tmp rfl) .nil)) ⟨rfl, ?_⟩
  all_goals simp only [t0, t1, t2, bne_iff_ne, ne_eq, bne_eq_false_iff_eq, Int.not_lt, Int.not_le, ge_iff_le] at *
  all_goals unfold charS
  all_goals (repeat' split)
  all_goals first
    | (exfalso; omega)
    | rfl
    | (have e := esc_val (chr s (p + 2)) (by omega); simp [resultOf, tokV, takeV, setL, cellsV, e]; done)
    | (have e : IntKind.u64.wrap (chr s (p + 1)) = ((chr s (p + 1)).toNat : Int) := (by rw [wrap_u64 (by omega) (by omega)]; omega)
       simp [resultOf, tokV, takeV, setL, cellsV, e]; done)
    | trace_state
end Go.Proofs.YtghpaggkbpdmkaaDoor
