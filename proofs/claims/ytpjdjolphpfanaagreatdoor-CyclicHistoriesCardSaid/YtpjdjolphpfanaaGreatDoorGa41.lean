/- A part of the proof. -/
import Derived.Test.YtpjdjolphpfanaaGreatDoorGa36
set_option linter.unusedVariables false
set_option maxRecDepth 1000000
set_option linter.unusedSimpArgs false
set_option linter.defProp false
section
namespace Go.Proofs.YtpjdjolphpfanaaGreatDoor
open Go Go.Abs
theorem dag0F : Pure Tryz.prog GG 253 [.agg [.sl 3 [[.int .i64 20, .int .i64 0, .int .i64 0], [.int .i64 20, .int .i64 1, .int .i64 1]] .tight], .int .i64 0] (.tup [.agg [.sl 3 [[.int .i64 20, .int .i64 0, .int .i64 0], [.int .i64 20, .int .i64 1, .int .i64 1], [.int .i64 0, .int .i64 0, .int .i64 1]] .none], .int .i64 2, .int .i64 0]) := Pure.closedA FD_ok (K := K0) X0_ok 2000 60 (by kernel_rfl)
theorem dag1F : Pure Tryz.prog GG 254 [.agg [.sl 3 [[.int .i64 20, .int .i64 0, .int .i64 0], [.int .i64 20, .int .i64 1, .int .i64 1], [.int .i64 0, .int .i64 0, .int .i64 1]] .none], .int .i64 2] (.tup [.agg [.sl 3 [[.int .i64 20, .int .i64 0, .int .i64 0], [.int .i64 20, .int .i64 1, .int .i64 1], [.int .i64 0, .int .i64 0, .int .i64 1], [.int .i64 0, .int .i64 1, .int .i64 0]] .none], .int .i64 3, .int .i64 0]) := Pure.closedA FD_ok (K := K0) X0_ok 2000 60 (by kernel_rfl)
theorem dag2F : Pure Tryz.prog GG 252 [.agg [.sl 3 [[.int .i64 20, .int .i64 0, .int .i64 0], [.int .i64 20, .int .i64 1, .int .i64 1], [.int .i64 0, .int .i64 0, .int .i64 1], [.int .i64 0, .int .i64 1, .int .i64 0]] .none], .int .i64 3, .int .i64 0] (.tup [.agg [.sl 3 [[.int .i64 20, .int .i64 0, .int .i64 0], [.int .i64 20, .int .i64 1, .int .i64 1], [.int .i64 0, .int .i64 0, .int .i64 1], [.int .i64 0, .int .i64 1, .int .i64 0]] .none], .int .i64 3, .int .i64 0]) := Pure.closedA FD_ok (K := K0) X0_ok 2000 60 (by kernel_rfl)
theorem dag3F : Pure Tryz.prog GG 252 [.agg [.sl 3 [[.int .i64 20, .int .i64 0, .int .i64 0], [.int .i64 20, .int .i64 1, .int .i64 1], [.int .i64 0, .int .i64 0, .int .i64 1], [.int .i64 0, .int .i64 1, .int .i64 0]] .none], .int .i64 0, .int .i64 3] (.tup [.agg [.sl 3 [[.int .i64 20, .int .i64 0, .int .i64 0], [.int .i64 20, .int .i64 1, .int .i64 1], [.int .i64 0, .int .i64 0, .int .i64 1], [.int .i64 0, .int .i64 1, .int .i64 0]] .none], .int .i64 3, .int .i64 0]) := Pure.closedA FD_ok (K := K0) X0_ok 2000 60 (by kernel_rfl)
theorem dag4F : Pure Tryz.prog GG 252 [.agg [.sl 3 [[.int .i64 20, .int .i64 0, .int .i64 0], [.int .i64 20, .int .i64 1, .int .i64 1], [.int .i64 0, .int .i64 0, .int .i64 1], [.int .i64 0, .int .i64 1, .int .i64 0]] .none], .int .i64 0, .int .i64 2] (.tup [.agg [.sl 3 [[.int .i64 20, .int .i64 0, .int .i64 0], [.int .i64 20, .int .i64 1, .int .i64 1], [.int .i64 0, .int .i64 0, .int .i64 1], [.int .i64 0, .int .i64 1, .int .i64 0]] .none], .int .i64 2, .int .i64 0]) := Pure.closedA FD_ok (K := K0) X0_ok 2000 60 (by kernel_rfl)
theorem dag5F : Pure Tryz.prog GG 252 [.agg [.sl 3 [[.int .i64 20, .int .i64 0, .int .i64 0], [.int .i64 20, .int .i64 1, .int .i64 1], [.int .i64 0, .int .i64 0, .int .i64 1], [.int .i64 0, .int .i64 1, .int .i64 0]] .none], .int .i64 2, .int .i64 0] (.tup [.agg [.sl 3 [[.int .i64 20, .int .i64 0, .int .i64 0], [.int .i64 20, .int .i64 1, .int .i64 1], [.int .i64 0, .int .i64 0, .int .i64 1], [.int .i64 0, .int .i64 1, .int .i64 0]] .none], .int .i64 2, .int .i64 0]) := Pure.closedA FD_ok (K := K0) X0_ok 2000 60 (by kernel_rfl)
theorem dag6F : Pure Tryz.prog GG 252 [.agg [.sl 3 [[.int .i64 20, .int .i64 0, .int .i64 0], [.int .i64 20, .int .i64 1, .int .i64 1], [.int .i64 0, .int .i64 0, .int .i64 1], [.int .i64 0, .int .i64 1, .int .i64 0]] .none], .int .i64 0, .int .i64 0] (.tup [.agg [.sl 3 [[.int .i64 20, .int .i64 0, .int .i64 0], [.int .i64 20, .int .i64 1, .int .i64 1], [.int .i64 0, .int .i64 0, .int .i64 1], [.int .i64 0, .int .i64 1, .int .i64 0]] .none], .int .i64 0, .int .i64 0]) := Pure.closedA FD_ok (K := K0) X0_ok 2000 60 (by kernel_rfl)
theorem dag7F : Pure Tryz.prog GG 125 [.agg [.sl 3 [[.int .i64 20, .int .i64 0, .int .i64 0], [.int .i64 20, .int .i64 1, .int .i64 1], [.int .i64 0, .int .i64 0, .int .i64 1], [.int .i64 0, .int .i64 1, .int .i64 0]] .none], .int .i64 1, .int .i64 3] (.tup [.agg [.sl 3 [[.int .i64 20, .int .i64 0, .int .i64 0], [.int .i64 20, .int .i64 1, .int .i64 1], [.int .i64 0, .int .i64 0, .int .i64 1], [.int .i64 0, .int .i64 1, .int .i64 0]] .none], .int .i64 3, .int .i64 0]) := Pure.closedA FD_ok (K := K0) X0_ok 2000 60 (by kernel_rfl)
theorem dag8F : Pure Tryz.prog GG 125 [.agg [.sl 3 [[.int .i64 20, .int .i64 0, .int .i64 0], [.int .i64 20, .int .i64 1, .int .i64 1], [.int .i64 0, .int .i64 0, .int .i64 1], [.int .i64 0, .int .i64 1, .int .i64 0]] .none], .int .i64 1, .int .i64 2] (.tup [.agg [.sl 3 [[.int .i64 20, .int .i64 0, .int .i64 0], [.int .i64 20, .int .i64 1, .int .i64 1], [.int .i64 0, .int .i64 0, .int .i64 1], [.int .i64 0, .int .i64 1, .int .i64 0]] .none], .int .i64 2, .int .i64 0]) := Pure.closedA FD_ok (K := K0) X0_ok 2000 60 (by kernel_rfl)
theorem dag9F : Pure Tryz.prog GG 125 [.agg [.sl 3 [[.int .i64 20, .int .i64 0, .int .i64 0], [.int .i64 20, .int .i64 1, .int .i64 1], [.int .i64 0, .int .i64 0, .int .i64 1], [.int .i64 0, .int .i64 1, .int .i64 0]] .none], .int .i64 1, .int .i64 0] (.tup [.agg [.sl 3 [[.int .i64 20, .int .i64 0, .int .i64 0], [.int .i64 20, .int .i64 1, .int .i64 1], [.int .i64 0, .int .i64 0, .int .i64 1], [.int .i64 0, .int .i64 1, .int .i64 0]] .none], .int .i64 0, .int .i64 0]) := Pure.closedA FD_ok (K := K0) X0_ok 2000 60 (by kernel_rfl)
theorem dag10F : Pure Tryz.prog GG 125 [.agg [.sl 3 [[.int .i64 20, .int .i64 0, .int .i64 0], [.int .i64 20, .int .i64 1, .int .i64 1], [.int .i64 0, .int .i64 0, .int .i64 1], [.int .i64 0, .int .i64 1, .int .i64 0]] .none], .int .i64 3, .int .i64 0] (.tup [.agg [.sl 3 [[.int .i64 20, .int .i64 0, .int .i64 0], [.int .i64 20, .int .i64 1, .int .i64 1], [.int .i64 0, .int .i64 0, .int .i64 1], [.int .i64 0, .int .i64 1, .int .i64 0]] .none], .int .i64 0, .int .i64 0]) := Pure.closedA FD_ok (K := K0) X0_ok 2000 60 (by kernel_rfl)
theorem dag11F : Pure Tryz.prog GG 289 [.agg [.sl 3 [[.int .i64 20, .int .i64 0, .int .i64 0], [.int .i64 20, .int .i64 1, .int .i64 1], [.int .i64 0, .int .i64 0, .int .i64 1], [.int .i64 0, .int .i64 1, .int .i64 0]] .none], .int .i64 0, .int .i64 2] (.tup [.agg [.sl 3 [[.int .i64 20, .int .i64 0, .int .i64 0], [.int .i64 20, .int .i64 1, .int .i64 1], [.int .i64 0, .int .i64 0, .int .i64 1], [.int .i64 0, .int .i64 1, .int .i64 0]] .none], .int .i64 2, .int .i64 0]) := Pure.closedA FD_ok (K := K0) X0_ok 2000 60 (by kernel_rfl)
theorem dag12F : Pure Tryz.prog GG 289 [.agg [.sl 3 [[.int .i64 20, .int .i64 0, .int .i64 0], [.int .i64 20, .int .i64 1, .int .i64 1], [.int .i64 0, .int .i64 0, .int .i64 1], [.int .i64 0, .int .i64 1, .int .i64 0]] .none], .int .i64 0, .int .i64 0] (.tup [.agg [.sl 3 [[.int .i64 20, .int .i64 0, .int .i64 0], [.int .i64 20, .int .i64 1, .int .i64 1], [.int .i64 0, .int .i64 0, .int .i64 1], [.int .i64 0, .int .i64 1, .int .i64 0]] .none], .int .i64 0, .int .i64 0]) := Pure.closedA FD_ok (K := K0) X0_ok 2000 60 (by kernel_rfl)
theorem dag13F : Pure Tryz.prog GG 289 [.agg [.sl 3 [[.int .i64 20, .int .i64 0, .int .i64 0], [.int .i64 20, .int .i64 1, .int .i64 1], [.int .i64 0, .int .i64 0, .int .i64 1], [.int .i64 0, .int .i64 1, .int .i64 0]] .none], .int .i64 2, .int .i64 0] (.tup [.agg [.sl 3 [[.int .i64 20, .int .i64 0, .int .i64 0], [.int .i64 20, .int .i64 1, .int .i64 1], [.int .i64 0, .int .i64 0, .int .i64 1], [.int .i64 0, .int .i64 1, .int .i64 0]] .none], .int .i64 2, .int .i64 0]) := Pure.closedA FD_ok (K := K0) X0_ok 2000 60 (by kernel_rfl)
theorem dag14F : Pure Tryz.prog GG 254 [.agg [.sl 3 [[.int .i64 20, .int .i64 0, .int .i64 0], [.int .i64 20, .int .i64 1, .int .i64 1], [.int .i64 0, .int .i64 0, .int .i64 1], [.int .i64 0, .int .i64 1, .int .i64 0]] .none], .int .i64 0] (.tup [.agg [.sl 3 [[.int .i64 20, .int .i64 0, .int .i64 0], [.int .i64 20, .int .i64 1, .int .i64 1], [.int .i64 0, .int .i64 0, .int .i64 1], [.int .i64 0, .int .i64 1, .int .i64 0]] .none], .int .i64 1, .int .i64 0]) := Pure.closedA FD_ok (K := K0) X0_ok 2000 60 (by kernel_rfl)
theorem dag15F : Pure Tryz.prog GG 254 [.agg [.sl 3 [[.int .i64 20, .int .i64 0, .int .i64 0], [.int .i64 20, .int .i64 1, .int .i64 1], [.int .i64 0, .int .i64 0, .int .i64 1], [.int .i64 0, .int .i64 1, .int .i64 0]] .none], .int .i64 2] (.tup [.agg [.sl 3 [[.int .i64 20, .int .i64 0, .int .i64 0], [.int .i64 20, .int .i64 1, .int .i64 1], [.int .i64 0, .int .i64 0, .int .i64 1], [.int .i64 0, .int .i64 1, .int .i64 0]] .none], .int .i64 3, .int .i64 0]) := Pure.closedA FD_ok (K := K0) X0_ok 2000 60 (by kernel_rfl)
def KD (g : FuncId) : Bool := Nat.beq g 125 || Nat.beq g 252 || Nat.beq g 253 || Nat.beq g 254 || Nat.beq g 289
def XD (g : FuncId) (args : List AV) : Option AV :=
  pickB (Nat.beq g 253 && leqQ args [.agg [.sl 3 [[.int .i64 20, .int .i64 0, .int .i64 0], [.int .i64 20, .int .i64 1, .int .i64 1]] .tight], .int .i64 0]) (some (.tup [.agg [.sl 3 [[.int .i64 20, .int .i64 0, .int .i64 0], [.int .i64 20, .int .i64 1, .int .i64 1], [.int .i64 0, .int .i64 0, .int .i64 1]] .none], .int .i64 2, .int .i64 0])) <|
  pickB (Nat.beq g 254 && leqQ args [.agg [.sl 3 [[.int .i64 20, .int .i64 0, .int .i64 0], [.int .i64 20, .int .i64 1, .int .i64 1], [.int .i64 0, .int .i64 0, .int .i64 1]] .none], .int .i64 2]) (some (.tup [.agg [.sl 3 [[.int .i64 20, .int .i64 0, .int .i64 0], [.int .i64 20, .int .i64 1, .int .i64 1], [.int .i64 0, .int .i64 0, .int .i64 1], [.int .i64 0, .int .i64 1, .int .i64 0]] .none], .int .i64 3, .int .i64 0])) <|
  pickB (Nat.beq g 252 && leqQ args [.agg [.sl 3 [[.int .i64 20, .int .i64 0, .int .i64 0], [.int .i64 20, .int .i64 1, .int .i64 1], [.int .i64 0, .int .i64 0, .int .i64 1], [.int .i64 0, .int .i64 1, .int .i64 0]] .none], .int .i64 3, .int .i64 0]) (some (.tup [.agg [.sl 3 [[.int .i64 20, .int .i64 0, .int .i64 0], [.int .i64 20, .int .i64 1, .int .i64 1], [.int .i64 0, .int .i64 0, .int .i64 1], [.int .i64 0, .int .i64 1, .int .i64 0]] .none], .int .i64 3, .int .i64 0])) <|
  pickB (Nat.beq g 252 && leqQ args [.agg [.sl 3 [[.int .i64 20, .int .i64 0, .int .i64 0], [.int .i64 20, .int .i64 1, .int .i64 1], [.int .i64 0, .int .i64 0, .int .i64 1], [.int .i64 0, .int .i64 1, .int .i64 0]] .none], .int .i64 0, .int .i64 3]) (some (.tup [.agg [.sl 3 [[.int .i64 20, .int .i64 0, .int .i64 0], [.int .i64 20, .int .i64 1, .int .i64 1], [.int .i64 0, .int .i64 0, .int .i64 1], [.int .i64 0, .int .i64 1, .int .i64 0]] .none], .int .i64 3, .int .i64 0])) <|
  pickB (Nat.beq g 252 && leqQ args [.agg [.sl 3 [[.int .i64 20, .int .i64 0, .int .i64 0], [.int .i64 20, .int .i64 1, .int .i64 1], [.int .i64 0, .int .i64 0, .int .i64 1], [.int .i64 0, .int .i64 1, .int .i64 0]] .none], .int .i64 0, .int .i64 2]) (some (.tup [.agg [.sl 3 [[.int .i64 20, .int .i64 0, .int .i64 0], [.int .i64 20, .int .i64 1, .int .i64 1], [.int .i64 0, .int .i64 0, .int .i64 1], [.int .i64 0, .int .i64 1, .int .i64 0]] .none], .int .i64 2, .int .i64 0])) <|
  pickB (Nat.beq g 252 && leqQ args [.agg [.sl 3 [[.int .i64 20, .int .i64 0, .int .i64 0], [.int .i64 20, .int .i64 1, .int .i64 1], [.int .i64 0, .int .i64 0, .int .i64 1], [.int .i64 0, .int .i64 1, .int .i64 0]] .none], .int .i64 2, .int .i64 0]) (some (.tup [.agg [.sl 3 [[.int .i64 20, .int .i64 0, .int .i64 0], [.int .i64 20, .int .i64 1, .int .i64 1], [.int .i64 0, .int .i64 0, .int .i64 1], [.int .i64 0, .int .i64 1, .int .i64 0]] .none], .int .i64 2, .int .i64 0])) <|
  pickB (Nat.beq g 252 && leqQ args [.agg [.sl 3 [[.int .i64 20, .int .i64 0, .int .i64 0], [.int .i64 20, .int .i64 1, .int .i64 1], [.int .i64 0, .int .i64 0, .int .i64 1], [.int .i64 0, .int .i64 1, .int .i64 0]] .none], .int .i64 0, .int .i64 0]) (some (.tup [.agg [.sl 3 [[.int .i64 20, .int .i64 0, .int .i64 0], [.int .i64 20, .int .i64 1, .int .i64 1], [.int .i64 0, .int .i64 0, .int .i64 1], [.int .i64 0, .int .i64 1, .int .i64 0]] .none], .int .i64 0, .int .i64 0])) <|
  pickB (Nat.beq g 125 && leqQ args [.agg [.sl 3 [[.int .i64 20, .int .i64 0, .int .i64 0], [.int .i64 20, .int .i64 1, .int .i64 1], [.int .i64 0, .int .i64 0, .int .i64 1], [.int .i64 0, .int .i64 1, .int .i64 0]] .none], .int .i64 1, .int .i64 3]) (some (.tup [.agg [.sl 3 [[.int .i64 20, .int .i64 0, .int .i64 0], [.int .i64 20, .int .i64 1, .int .i64 1], [.int .i64 0, .int .i64 0, .int .i64 1], [.int .i64 0, .int .i64 1, .int .i64 0]] .none], .int .i64 3, .int .i64 0])) <|
  pickB (Nat.beq g 125 && leqQ args [.agg [.sl 3 [[.int .i64 20, .int .i64 0, .int .i64 0], [.int .i64 20, .int .i64 1, .int .i64 1], [.int .i64 0, .int .i64 0, .int .i64 1], [.int .i64 0, .int .i64 1, .int .i64 0]] .none], .int .i64 1, .int .i64 2]) (some (.tup [.agg [.sl 3 [[.int .i64 20, .int .i64 0, .int .i64 0], [.int .i64 20, .int .i64 1, .int .i64 1], [.int .i64 0, .int .i64 0, .int .i64 1], [.int .i64 0, .int .i64 1, .int .i64 0]] .none], .int .i64 2, .int .i64 0])) <|
  pickB (Nat.beq g 125 && leqQ args [.agg [.sl 3 [[.int .i64 20, .int .i64 0, .int .i64 0], [.int .i64 20, .int .i64 1, .int .i64 1], [.int .i64 0, .int .i64 0, .int .i64 1], [.int .i64 0, .int .i64 1, .int .i64 0]] .none], .int .i64 1, .int .i64 0]) (some (.tup [.agg [.sl 3 [[.int .i64 20, .int .i64 0, .int .i64 0], [.int .i64 20, .int .i64 1, .int .i64 1], [.int .i64 0, .int .i64 0, .int .i64 1], [.int .i64 0, .int .i64 1, .int .i64 0]] .none], .int .i64 0, .int .i64 0])) <|
  pickB (Nat.beq g 125 && leqQ args [.agg [.sl 3 [[.int .i64 20, .int .i64 0, .int .i64 0], [.int .i64 20, .int .i64 1, .int .i64 1], [.int .i64 0, .int .i64 0, .int .i64 1], [.int .i64 0, .int .i64 1, .int .i64 0]] .none], .int .i64 3, .int .i64 0]) (some (.tup [.agg [.sl 3 [[.int .i64 20, .int .i64 0, .int .i64 0], [.int .i64 20, .int .i64 1, .int .i64 1], [.int .i64 0, .int .i64 0, .int .i64 1], [.int .i64 0, .int .i64 1, .int .i64 0]] .none], .int .i64 0, .int .i64 0])) <|
  pickB (Nat.beq g 289 && leqQ args [.agg [.sl 3 [[.int .i64 20, .int .i64 0, .int .i64 0], [.int .i64 20, .int .i64 1, .int .i64 1], [.int .i64 0, .int .i64 0, .int .i64 1], [.int .i64 0, .int .i64 1, .int .i64 0]] .none], .int .i64 0, .int .i64 2]) (some (.tup [.agg [.sl 3 [[.int .i64 20, .int .i64 0, .int .i64 0], [.int .i64 20, .int .i64 1, .int .i64 1], [.int .i64 0, .int .i64 0, .int .i64 1], [.int .i64 0, .int .i64 1, .int .i64 0]] .none], .int .i64 2, .int .i64 0])) <|
  pickB (Nat.beq g 289 && leqQ args [.agg [.sl 3 [[.int .i64 20, .int .i64 0, .int .i64 0], [.int .i64 20, .int .i64 1, .int .i64 1], [.int .i64 0, .int .i64 0, .int .i64 1], [.int .i64 0, .int .i64 1, .int .i64 0]] .none], .int .i64 0, .int .i64 0]) (some (.tup [.agg [.sl 3 [[.int .i64 20, .int .i64 0, .int .i64 0], [.int .i64 20, .int .i64 1, .int .i64 1], [.int .i64 0, .int .i64 0, .int .i64 1], [.int .i64 0, .int .i64 1, .int .i64 0]] .none], .int .i64 0, .int .i64 0])) <|
  pickB (Nat.beq g 289 && leqQ args [.agg [.sl 3 [[.int .i64 20, .int .i64 0, .int .i64 0], [.int .i64 20, .int .i64 1, .int .i64 1], [.int .i64 0, .int .i64 0, .int .i64 1], [.int .i64 0, .int .i64 1, .int .i64 0]] .none], .int .i64 2, .int .i64 0]) (some (.tup [.agg [.sl 3 [[.int .i64 20, .int .i64 0, .int .i64 0], [.int .i64 20, .int .i64 1, .int .i64 1], [.int .i64 0, .int .i64 0, .int .i64 1], [.int .i64 0, .int .i64 1, .int .i64 0]] .none], .int .i64 2, .int .i64 0])) <|
  pickB (Nat.beq g 254 && leqQ args [.agg [.sl 3 [[.int .i64 20, .int .i64 0, .int .i64 0], [.int .i64 20, .int .i64 1, .int .i64 1], [.int .i64 0, .int .i64 0, .int .i64 1], [.int .i64 0, .int .i64 1, .int .i64 0]] .none], .int .i64 0]) (some (.tup [.agg [.sl 3 [[.int .i64 20, .int .i64 0, .int .i64 0], [.int .i64 20, .int .i64 1, .int .i64 1], [.int .i64 0, .int .i64 0, .int .i64 1], [.int .i64 0, .int .i64 1, .int .i64 0]] .none], .int .i64 1, .int .i64 0])) <|
  pickB (Nat.beq g 254 && leqQ args [.agg [.sl 3 [[.int .i64 20, .int .i64 0, .int .i64 0], [.int .i64 20, .int .i64 1, .int .i64 1], [.int .i64 0, .int .i64 0, .int .i64 1], [.int .i64 0, .int .i64 1, .int .i64 0]] .none], .int .i64 2]) (some (.tup [.agg [.sl 3 [[.int .i64 20, .int .i64 0, .int .i64 0], [.int .i64 20, .int .i64 1, .int .i64 1], [.int .i64 0, .int .i64 0, .int .i64 1], [.int .i64 0, .int .i64 1, .int .i64 0]] .none], .int .i64 3, .int .i64 0])) <|
  none
theorem XD_ok : ConX Tryz.prog GG XD := by
  intro g args r h
  unfold XD at h
  rcases conX_step dag0F h with h | h
  · exact h
  rcases conX_step dag1F h with h | h
  · exact h
  rcases conX_step dag2F h with h | h
  · exact h
  rcases conX_step dag3F h with h | h
  · exact h
  rcases conX_step dag4F h with h | h
  · exact h
  rcases conX_step dag5F h with h | h
  · exact h
  rcases conX_step dag6F h with h | h
  · exact h
  rcases conX_step dag7F h with h | h
  · exact h
  rcases conX_step dag8F h with h | h
  · exact h
  rcases conX_step dag9F h with h | h
  · exact h
  rcases conX_step dag10F h with h | h
  · exact h
  rcases conX_step dag11F h with h | h
  · exact h
  rcases conX_step dag12F h with h | h
  · exact h
  rcases conX_step dag13F h with h | h
  · exact h
  rcases conX_step dag14F h with h | h
  · exact h
  rcases conX_step dag15F h with h | h
  · exact h
  cases h
def KT (g : FuncId) : Bool := Nat.beq g 20 || Nat.beq g 125 || Nat.beq g 252 || Nat.beq g 253 || Nat.beq g 254 || Nat.beq g 289
def XT (g : FuncId) (args : List AV) : Option AV :=
  pickB (Nat.beq g 253 && leqQ args [.agg [.sl 3 [[.int .i64 20, .int .i64 0, .int .i64 0], [.int .i64 20, .int .i64 1, .int .i64 1]] .tight], .int .i64 0]) (some (.tup [.agg [.sl 3 [[.int .i64 20, .int .i64 0, .int .i64 0], [.int .i64 20, .int .i64 1, .int .i64 1], [.int .i64 0, .int .i64 0, .int .i64 1]] .none], .int .i64 2, .int .i64 0])) <|
  pickB (Nat.beq g 254 && leqQ args [.agg [.sl 3 [[.int .i64 20, .int .i64 0, .int .i64 0], [.int .i64 20, .int .i64 1, .int .i64 1], [.int .i64 0, .int .i64 0, .int .i64 1]] .none], .int .i64 2]) (some (.tup [.agg [.sl 3 [[.int .i64 20, .int .i64 0, .int .i64 0], [.int .i64 20, .int .i64 1, .int .i64 1], [.int .i64 0, .int .i64 0, .int .i64 1], [.int .i64 0, .int .i64 1, .int .i64 0]] .none], .int .i64 3, .int .i64 0])) <|
  pickB (Nat.beq g 252 && leqQ args [.agg [.sl 3 [[.int .i64 20, .int .i64 0, .int .i64 0], [.int .i64 20, .int .i64 1, .int .i64 1], [.int .i64 0, .int .i64 0, .int .i64 1], [.int .i64 0, .int .i64 1, .int .i64 0]] .none], .int .i64 3, .int .i64 0]) (some (.tup [.agg [.sl 3 [[.int .i64 20, .int .i64 0, .int .i64 0], [.int .i64 20, .int .i64 1, .int .i64 1], [.int .i64 0, .int .i64 0, .int .i64 1], [.int .i64 0, .int .i64 1, .int .i64 0]] .none], .int .i64 3, .int .i64 0])) <|
  pickB (Nat.beq g 252 && leqQ args [.agg [.sl 3 [[.int .i64 20, .int .i64 0, .int .i64 0], [.int .i64 20, .int .i64 1, .int .i64 1], [.int .i64 0, .int .i64 0, .int .i64 1], [.int .i64 0, .int .i64 1, .int .i64 0]] .none], .int .i64 0, .int .i64 3]) (some (.tup [.agg [.sl 3 [[.int .i64 20, .int .i64 0, .int .i64 0], [.int .i64 20, .int .i64 1, .int .i64 1], [.int .i64 0, .int .i64 0, .int .i64 1], [.int .i64 0, .int .i64 1, .int .i64 0]] .none], .int .i64 3, .int .i64 0])) <|
  pickB (Nat.beq g 252 && leqQ args [.agg [.sl 3 [[.int .i64 20, .int .i64 0, .int .i64 0], [.int .i64 20, .int .i64 1, .int .i64 1], [.int .i64 0, .int .i64 0, .int .i64 1], [.int .i64 0, .int .i64 1, .int .i64 0]] .none], .int .i64 0, .int .i64 2]) (some (.tup [.agg [.sl 3 [[.int .i64 20, .int .i64 0, .int .i64 0], [.int .i64 20, .int .i64 1, .int .i64 1], [.int .i64 0, .int .i64 0, .int .i64 1], [.int .i64 0, .int .i64 1, .int .i64 0]] .none], .int .i64 2, .int .i64 0])) <|
  pickB (Nat.beq g 252 && leqQ args [.agg [.sl 3 [[.int .i64 20, .int .i64 0, .int .i64 0], [.int .i64 20, .int .i64 1, .int .i64 1], [.int .i64 0, .int .i64 0, .int .i64 1], [.int .i64 0, .int .i64 1, .int .i64 0]] .none], .int .i64 2, .int .i64 0]) (some (.tup [.agg [.sl 3 [[.int .i64 20, .int .i64 0, .int .i64 0], [.int .i64 20, .int .i64 1, .int .i64 1], [.int .i64 0, .int .i64 0, .int .i64 1], [.int .i64 0, .int .i64 1, .int .i64 0]] .none], .int .i64 2, .int .i64 0])) <|
  pickB (Nat.beq g 252 && leqQ args [.agg [.sl 3 [[.int .i64 20, .int .i64 0, .int .i64 0], [.int .i64 20, .int .i64 1, .int .i64 1], [.int .i64 0, .int .i64 0, .int .i64 1], [.int .i64 0, .int .i64 1, .int .i64 0]] .none], .int .i64 0, .int .i64 0]) (some (.tup [.agg [.sl 3 [[.int .i64 20, .int .i64 0, .int .i64 0], [.int .i64 20, .int .i64 1, .int .i64 1], [.int .i64 0, .int .i64 0, .int .i64 1], [.int .i64 0, .int .i64 1, .int .i64 0]] .none], .int .i64 0, .int .i64 0])) <|
  pickB (Nat.beq g 125 && leqQ args [.agg [.sl 3 [[.int .i64 20, .int .i64 0, .int .i64 0], [.int .i64 20, .int .i64 1, .int .i64 1], [.int .i64 0, .int .i64 0, .int .i64 1], [.int .i64 0, .int .i64 1, .int .i64 0]] .none], .int .i64 1, .int .i64 3]) (some (.tup [.agg [.sl 3 [[.int .i64 20, .int .i64 0, .int .i64 0], [.int .i64 20, .int .i64 1, .int .i64 1], [.int .i64 0, .int .i64 0, .int .i64 1], [.int .i64 0, .int .i64 1, .int .i64 0]] .none], .int .i64 3, .int .i64 0])) <|
  pickB (Nat.beq g 125 && leqQ args [.agg [.sl 3 [[.int .i64 20, .int .i64 0, .int .i64 0], [.int .i64 20, .int .i64 1, .int .i64 1], [.int .i64 0, .int .i64 0, .int .i64 1], [.int .i64 0, .int .i64 1, .int .i64 0]] .none], .int .i64 1, .int .i64 2]) (some (.tup [.agg [.sl 3 [[.int .i64 20, .int .i64 0, .int .i64 0], [.int .i64 20, .int .i64 1, .int .i64 1], [.int .i64 0, .int .i64 0, .int .i64 1], [.int .i64 0, .int .i64 1, .int .i64 0]] .none], .int .i64 2, .int .i64 0])) <|
  pickB (Nat.beq g 125 && leqQ args [.agg [.sl 3 [[.int .i64 20, .int .i64 0, .int .i64 0], [.int .i64 20, .int .i64 1, .int .i64 1], [.int .i64 0, .int .i64 0, .int .i64 1], [.int .i64 0, .int .i64 1, .int .i64 0]] .none], .int .i64 1, .int .i64 0]) (some (.tup [.agg [.sl 3 [[.int .i64 20, .int .i64 0, .int .i64 0], [.int .i64 20, .int .i64 1, .int .i64 1], [.int .i64 0, .int .i64 0, .int .i64 1], [.int .i64 0, .int .i64 1, .int .i64 0]] .none], .int .i64 0, .int .i64 0])) <|
  pickB (Nat.beq g 125 && leqQ args [.agg [.sl 3 [[.int .i64 20, .int .i64 0, .int .i64 0], [.int .i64 20, .int .i64 1, .int .i64 1], [.int .i64 0, .int .i64 0, .int .i64 1], [.int .i64 0, .int .i64 1, .int .i64 0]] .none], .int .i64 3, .int .i64 0]) (some (.tup [.agg [.sl 3 [[.int .i64 20, .int .i64 0, .int .i64 0], [.int .i64 20, .int .i64 1, .int .i64 1], [.int .i64 0, .int .i64 0, .int .i64 1], [.int .i64 0, .int .i64 1, .int .i64 0]] .none], .int .i64 0, .int .i64 0])) <|
  pickB (Nat.beq g 289 && leqQ args [.agg [.sl 3 [[.int .i64 20, .int .i64 0, .int .i64 0], [.int .i64 20, .int .i64 1, .int .i64 1], [.int .i64 0, .int .i64 0, .int .i64 1], [.int .i64 0, .int .i64 1, .int .i64 0]] .none], .int .i64 0, .int .i64 2]) (some (.tup [.agg [.sl 3 [[.int .i64 20, .int .i64 0, .int .i64 0], [.int .i64 20, .int .i64 1, .int .i64 1], [.int .i64 0, .int .i64 0, .int .i64 1], [.int .i64 0, .int .i64 1, .int .i64 0]] .none], .int .i64 2, .int .i64 0])) <|
  pickB (Nat.beq g 289 && leqQ args [.agg [.sl 3 [[.int .i64 20, .int .i64 0, .int .i64 0], [.int .i64 20, .int .i64 1, .int .i64 1], [.int .i64 0, .int .i64 0, .int .i64 1], [.int .i64 0, .int .i64 1, .int .i64 0]] .none], .int .i64 0, .int .i64 0]) (some (.tup [.agg [.sl 3 [[.int .i64 20, .int .i64 0, .int .i64 0], [.int .i64 20, .int .i64 1, .int .i64 1], [.int .i64 0, .int .i64 0, .int .i64 1], [.int .i64 0, .int .i64 1, .int .i64 0]] .none], .int .i64 0, .int .i64 0])) <|
  pickB (Nat.beq g 289 && leqQ args [.agg [.sl 3 [[.int .i64 20, .int .i64 0, .int .i64 0], [.int .i64 20, .int .i64 1, .int .i64 1], [.int .i64 0, .int .i64 0, .int .i64 1], [.int .i64 0, .int .i64 1, .int .i64 0]] .none], .int .i64 2, .int .i64 0]) (some (.tup [.agg [.sl 3 [[.int .i64 20, .int .i64 0, .int .i64 0], [.int .i64 20, .int .i64 1, .int .i64 1], [.int .i64 0, .int .i64 0, .int .i64 1], [.int .i64 0, .int .i64 1, .int .i64 0]] .none], .int .i64 2, .int .i64 0])) <|
  pickB (Nat.beq g 254 && leqQ args [.agg [.sl 3 [[.int .i64 20, .int .i64 0, .int .i64 0], [.int .i64 20, .int .i64 1, .int .i64 1], [.int .i64 0, .int .i64 0, .int .i64 1], [.int .i64 0, .int .i64 1, .int .i64 0]] .none], .int .i64 0]) (some (.tup [.agg [.sl 3 [[.int .i64 20, .int .i64 0, .int .i64 0], [.int .i64 20, .int .i64 1, .int .i64 1], [.int .i64 0, .int .i64 0, .int .i64 1], [.int .i64 0, .int .i64 1, .int .i64 0]] .none], .int .i64 1, .int .i64 0])) <|
  pickB (Nat.beq g 254 && leqQ args [.agg [.sl 3 [[.int .i64 20, .int .i64 0, .int .i64 0], [.int .i64 20, .int .i64 1, .int .i64 1], [.int .i64 0, .int .i64 0, .int .i64 1], [.int .i64 0, .int .i64 1, .int .i64 0]] .none], .int .i64 2]) (some (.tup [.agg [.sl 3 [[.int .i64 20, .int .i64 0, .int .i64 0], [.int .i64 20, .int .i64 1, .int .i64 1], [.int .i64 0, .int .i64 0, .int .i64 1], [.int .i64 0, .int .i64 1, .int .i64 0]] .none], .int .i64 3, .int .i64 0])) <|
  pickB (Nat.beq g 20 && leqQ args [.agg [.sl 4 [[.str [97], .int .i64 1, .int .i64 2, .int .i64 0]] .tight, .sl 0 [] .nil, .sl 0 [] .nil, .sl 0 [] .nil, .sl 1 [[.sl 1 [[.int .i64 0]] .tight]] .tight]]) (some (.int .i64 0)) <|
  pickB (Nat.beq g 20 && leqQ args [.agg [.sl 4 [[.str [97], .int .i64 1, .int .i64 2, .int .i64 0]] .tight, .sl 4 [[.int .i64 23, .int .i64 0, .str [], .sl 4 [[.int .i64 2, .int .i64 0, .str [97], .sl 0 [] .nil], [.int .i64 1, .int .i64 0, .str [], .sl 0 [] .nil], [.int .i64 1, .int .i64 0, .str [], .sl 0 [] .nil]] .none]] .none, .sl 0 [] .nil, .sl 0 [] .nil, .sl 1 [[.sl 1 [[.int .i64 0]] .tight]] .tight]]) (some (.int .i64 0)) <|
  none
theorem XT_ok : ConX Tryz.prog GG XT := by
  intro g args r h
  unfold XT at h
  rcases conX_step dag0F h with h | h
  · exact h
  rcases conX_step dag1F h with h | h
  · exact h
  rcases conX_step dag2F h with h | h
  · exact h
  rcases conX_step dag3F h with h | h
  · exact h
  rcases conX_step dag4F h with h | h
  · exact h
  rcases conX_step dag5F h with h | h
  · exact h
  rcases conX_step dag6F h with h | h
  · exact h
  rcases conX_step dag7F h with h | h
  · exact h
  rcases conX_step dag8F h with h | h
  · exact h
  rcases conX_step dag9F h with h | h
  · exact h
  rcases conX_step dag10F h with h | h
  · exact h
  rcases conX_step dag11F h with h | h
  · exact h
  rcases conX_step dag12F h with h | h
  · exact h
  rcases conX_step dag13F h with h | h
  · exact h
  rcases conX_step dag14F h with h | h
  · exact h
  rcases conX_step dag15F h with h | h
  · exact h
  rcases conX_step valid0F h with h | h
  · exact h
  rcases conX_step valid1F h with h | h
  · exact h
  cases h
theorem truth1F : Pure Tryz.prog GG 124 [.agg [.sl 3 [[.int .i64 20, .int .i64 0, .int .i64 0], [.int .i64 20, .int .i64 1, .int .i64 1]] .tight], .agg [.sl 4 [[.str [97], .int .i64 1, .int .i64 2, .int .i64 0]] .tight, .sl 4 [[.int .i64 23, .int .i64 0, .str [], .sl 4 [[.int .i64 2, .int .i64 0, .str [97], .sl 0 [] .nil], [.int .i64 1, .int .i64 0, .str [], .sl 0 [] .nil], [.int .i64 1, .int .i64 0, .str [], .sl 0 [] .nil]] .none]] .none, .sl 0 [] .nil, .sl 0 [] .nil, .sl 1 [[.sl 1 [[.int .i64 0]] .tight]] .tight], .agg [.int .i64 23, .int .i64 0, .str [], .sl 4 [[.int .i64 2, .int .i64 0, .str [97], .sl 4 [] .none], [.int .i64 1, .int .i64 0, .str [], .sl 4 [] .none], [.int .i64 1, .int .i64 0, .str [], .sl 4 [] .none]] .none]] (.tup [.agg [.sl 3 [[.int .i64 20, .int .i64 0, .int .i64 0], [.int .i64 20, .int .i64 1, .int .i64 1], [.int .i64 0, .int .i64 0, .int .i64 1], [.int .i64 0, .int .i64 1, .int .i64 0]] .none], .int .i64 3, .int .i64 0]) := Pure.closedA FD_ok (K := KT) XT_ok 2000 60 (by kernel_rfl)
end Go.Proofs.YtpjdjolphpfanaaGreatDoor
end
