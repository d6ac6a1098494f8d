import Derived.Test.YtkodonalmdmgpaaGreatDoorSv38
set_option maxRecDepth 1000000
set_option linter.all false
set_option linter.defProp false
section
namespace Go.Proofs.YtkodonalmdmgpaaGreatDoor
open Go Go.Abs
theorem problemF:Pure Tryz.prog GG 62 [.sl 4 [[.str [111,110,101],.str [],.sl 5 [[.str [97],.int .i64 3,.int .i64 0,.int .i64 1,.int .i64 0]] .tight,.sl 0 [] .nil]] .tight,.str [111,110,101],.sl 0 [] .nil,.sl 0 [] .nil,.sl 0 [] .nil] (.tup [.agg [.sl 4 [[.str [97],.int .i64 3,.int .i64 1,.int .i64 0]] .none,.sl 0 [] .nil,.sl 0 [] .nil,.sl 0 [] .nil,.sl 1 [[.sl 1 [[.int .i64 0]] .none]] .none],.int .i64 0]):=Pure.closedA FA_ok (K:=K0) X0_ok 2000 60 (by kernel_rfl)
end Go.Proofs.YtkodonalmdmgpaaGreatDoor
end
