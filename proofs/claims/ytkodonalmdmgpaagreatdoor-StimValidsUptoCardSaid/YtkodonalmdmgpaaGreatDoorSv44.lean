import Derived.Test.YtkodonalmdmgpaaGreatDoorSv38
set_option maxRecDepth 1000000
set_option linter.all false
set_option linter.defProp false
section
namespace Go.Proofs.YtkodonalmdmgpaaGreatDoor
open Go Go.Abs
theorem stream00F:Pure Tryz.prog GG 30 [.int .u64 5,.str [48,46,48]] (.tup [.agg [.int .u64 1642094416566546154,.int .u64 0],.int .i64 0]):=Pure.closedA FA_ok (K:=K0) X0_ok 2000 60 (by kernel_rfl)
theorem stream01F:Pure Tryz.prog GG 30 [.int .u64 5,.str [48,46,49]] (.tup [.agg [.int .u64 16722898625489692664,.int .u64 0],.int .i64 0]):=Pure.closedA FA_ok (K:=K0) X0_ok 2000 60 (by kernel_rfl)
theorem stream10F:Pure Tryz.prog GG 30 [.int .u64 5,.str [49,46,48]] (.tup [.agg [.int .u64 5636776020644590480,.int .u64 0],.int .i64 0]):=Pure.closedA FA_ok (K:=K0) X0_ok 2000 60 (by kernel_rfl)
theorem stream11F:Pure Tryz.prog GG 30 [.int .u64 5,.str [49,46,49]] (.tup [.agg [.int .u64 14689928107199444447,.int .u64 0],.int .i64 0]):=Pure.closedA FA_ok (K:=K0) X0_ok 2000 60 (by kernel_rfl)
end Go.Proofs.YtkodonalmdmgpaaGreatDoor
end
