/- A part of the proof. -/
import Derived.Test.YtpjdjolphpfanaaGreatDoorGa40
import Derived.Test.YtpjdjolphpfanaaGreatDoorGa41
import Derived.Test.YtpjdjolphpfanaaGreatDoorGa39
set_option linter.unusedVariables false
set_option maxRecDepth 1000000
set_option linter.unusedSimpArgs false
set_option linter.defProp false
section
namespace Go.Proofs.YtpjdjolphpfanaaGreatDoor
open Go Go.Abs
def KU1 (g : FuncId) : Bool := Nat.beq g 20 || Nat.beq g 33 || Nat.beq g 95 || Nat.beq g 124
def XU1 (g : FuncId) (args : List AV) : Option AV :=
  pickB (Nat.beq g 20 && leqQ args [.agg [.sl 4 [[.str [97], .int .i64 1, .int .i64 2, .int .i64 0]] .tight, .sl 0 [] .nil, .sl 0 [] .nil, .sl 0 [] .nil, .sl 1 [[.sl 1 [[.int .i64 0]] .tight]] .tight]]) (some (.int .i64 0)) <|
  pickB (Nat.beq g 20 && leqQ args [.agg [.sl 4 [[.str [97], .int .i64 1, .int .i64 2, .int .i64 0]] .tight, .sl 4 [[.int .i64 23, .int .i64 0, .str [], .sl 4 [[.int .i64 2, .int .i64 0, .str [97], .sl 0 [] .nil], [.int .i64 1, .int .i64 0, .str [], .sl 0 [] .nil], [.int .i64 1, .int .i64 0, .str [], .sl 0 [] .nil]] .none]] .none, .sl 0 [] .nil, .sl 0 [] .nil, .sl 1 [[.sl 1 [[.int .i64 0]] .tight]] .tight]]) (some (.int .i64 0)) <|
  pickB (Nat.beq g 33 && leqQ args [.agg [.sl 4 [[.str [97], .int .i64 1, .int .i64 2, .int .i64 0]] .tight, .sl 4 [[.int .i64 23, .int .i64 0, .str [], .sl 4 [[.int .i64 2, .int .i64 0, .str [97], .sl 0 [] .nil], [.int .i64 1, .int .i64 0, .str [], .sl 0 [] .nil], [.int .i64 1, .int .i64 0, .str [], .sl 0 [] .nil]] .none]] .none, .sl 0 [] .nil, .sl 0 [] .nil, .sl 1 [[.sl 1 [[.int .i64 0]] .tight]] .tight]]) (some (.tup [.sl 4 [[.int .i64 23, .int .i64 0, .str [], .sl 4 [[.int .i64 2, .int .i64 0, .str [97], .sl 4 [] .none], [.int .i64 1, .int .i64 0, .str [], .sl 4 [] .none], [.int .i64 1, .int .i64 0, .str [], .sl 4 [] .none]] .none]] .none, .int .i64 0])) <|
  pickB (Nat.beq g 95 && eqVL args [.fn 135 [] [.rptr [.sl 1 [[.int .i64 0]] .tight]]]) (some (.sl 1 [[.int .i64 0]] .none)) <|
  pickB (Nat.beq g 124 && leqQ args [.agg [.sl 3 [[.int .i64 20, .int .i64 0, .int .i64 0], [.int .i64 20, .int .i64 1, .int .i64 1]] .tight], .agg [.sl 4 [[.str [97], .int .i64 1, .int .i64 2, .int .i64 0]] .tight, .sl 4 [[.int .i64 23, .int .i64 0, .str [], .sl 4 [[.int .i64 2, .int .i64 0, .str [97], .sl 0 [] .nil], [.int .i64 1, .int .i64 0, .str [], .sl 0 [] .nil], [.int .i64 1, .int .i64 0, .str [], .sl 0 [] .nil]] .none]] .none, .sl 0 [] .nil, .sl 0 [] .nil, .sl 1 [[.sl 1 [[.int .i64 0]] .tight]] .tight], .agg [.int .i64 23, .int .i64 0, .str [], .sl 4 [[.int .i64 2, .int .i64 0, .str [97], .sl 4 [] .none], [.int .i64 1, .int .i64 0, .str [], .sl 4 [] .none], [.int .i64 1, .int .i64 0, .str [], .sl 4 [] .none]] .none]]) (some (.tup [.agg [.sl 3 [[.int .i64 20, .int .i64 0, .int .i64 0], [.int .i64 20, .int .i64 1, .int .i64 1], [.int .i64 0, .int .i64 0, .int .i64 1], [.int .i64 0, .int .i64 1, .int .i64 0]] .none], .int .i64 3, .int .i64 0])) <|
  none
theorem XU1_ok : ConX Tryz.prog GG XU1 := by
  intro g args r h
  unfold XU1 at h
  rcases conX_step valid0F h with h | h
  · exact h
  rcases conX_step valid1F h with h | h
  · exact h
  rcases conX_step rules1F h with h | h
  · exact h
  rcases conX_eq (sorted139 0 .tight) h with h | h
  · exact h
  rcases conX_step truth1F h with h | h
  · exact h
  cases h
theorem solve1F : Pure Tryz.prog GG 37 [.agg [.sl 4 [[.str [97], .int .i64 1, .int .i64 2, .int .i64 0]] .tight, .sl 4 [[.int .i64 23, .int .i64 0, .str [], .sl 4 [[.int .i64 2, .int .i64 0, .str [97], .sl 0 [] .nil], [.int .i64 1, .int .i64 0, .str [], .sl 0 [] .nil], [.int .i64 1, .int .i64 0, .str [], .sl 0 [] .nil]] .none]] .none, .sl 0 [] .nil, .sl 0 [] .nil, .sl 1 [[.sl 1 [[.int .i64 0]] .tight]] .tight], .agg [.int .u64 1, .int .u64 1]] (.tup [.sl 1 [[.int .i64 0]] .none, .agg [.int .u64 1, .int .u64 2], .int .i64 0]) := Pure.closedA FD_ok (K := KU1) XU1_ok 2000 60 (by kernel_rfl)
end Go.Proofs.YtpjdjolphpfanaaGreatDoor
end
