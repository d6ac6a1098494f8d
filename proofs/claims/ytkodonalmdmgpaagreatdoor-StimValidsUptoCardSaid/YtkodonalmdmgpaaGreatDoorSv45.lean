import Derived.Test.YtkodonalmdmgpaaGreatDoorSv38
set_option maxRecDepth 1000000
set_option linter.all false
set_option linter.defProp false
section
namespace Go.Proofs.YtkodonalmdmgpaaGreatDoor
open Go Go.Abs
theorem child0F:Pure Tryz.prog GG 44 [.str [],.int .i64 0] (.tup [.str [48],.int .i64 0]):=Pure.closedA FB_ok (K:=K0) X0_ok 2000 60 (by kernel_rfl)
theorem child1F:Pure Tryz.prog GG 44 [.str [],.int .i64 1] (.tup [.str [49],.int .i64 0]):=Pure.closedA FB_ok (K:=K0) X0_ok 2000 60 (by kernel_rfl)
theorem child00F:Pure Tryz.prog GG 44 [.str [48],.int .i64 0] (.tup [.str [48,46,48],.int .i64 0]):=Pure.closedA FB_ok (K:=K0) X0_ok 2000 60 (by kernel_rfl)
theorem child01F:Pure Tryz.prog GG 44 [.str [48],.int .i64 1] (.tup [.str [48,46,49],.int .i64 0]):=Pure.closedA FB_ok (K:=K0) X0_ok 2000 60 (by kernel_rfl)
theorem child10F:Pure Tryz.prog GG 44 [.str [49],.int .i64 0] (.tup [.str [49,46,48],.int .i64 0]):=Pure.closedA FB_ok (K:=K0) X0_ok 2000 60 (by kernel_rfl)
theorem child11F:Pure Tryz.prog GG 44 [.str [49],.int .i64 1] (.tup [.str [49,46,49],.int .i64 0]):=Pure.closedA FB_ok (K:=K0) X0_ok 2000 60 (by kernel_rfl)
end Go.Proofs.YtkodonalmdmgpaaGreatDoor
end
