/- A part of the proof. -/
import Derived.Test.YtpjdjolphpfanaaGreatDoorGa42
import Derived.Test.YtpjdjolphpfanaaGreatDoorGa43
set_option linter.unusedVariables false
set_option maxRecDepth 1000000
set_option linter.unusedSimpArgs false
set_option linter.defProp false
section
namespace Go.Proofs.YtpjdjolphpfanaaGreatDoor
open Go Go.Abs
def KC (g : FuncId) : Bool := Nat.beq g 37 || Nat.beq g 20 || Nat.beq g 33 || Nat.beq g 36
def XC (g : FuncId) (args : List AV) : Option AV :=
  pickB (Nat.beq g 20 && leqQ args [.agg [.sl 4 [[.str [97], .int .i64 1, .int .i64 2, .int .i64 0]] .tight, .sl 0 [] .nil, .sl 0 [] .nil, .sl 0 [] .nil, .sl 1 [[.sl 1 [[.int .i64 0]] .tight]] .tight]]) (some (.int .i64 0)) <|
  pickB (Nat.beq g 20 && leqQ args [.agg [.sl 4 [[.str [97], .int .i64 1, .int .i64 2, .int .i64 0]] .tight, .sl 4 [[.int .i64 23, .int .i64 0, .str [], .sl 4 [[.int .i64 2, .int .i64 0, .str [97], .sl 0 [] .nil], [.int .i64 1, .int .i64 0, .str [], .sl 0 [] .nil], [.int .i64 1, .int .i64 0, .str [], .sl 0 [] .nil]] .none]] .none, .sl 0 [] .nil, .sl 0 [] .nil, .sl 1 [[.sl 1 [[.int .i64 0]] .tight]] .tight]]) (some (.int .i64 0)) <|
  pickB (Nat.beq g 33 && leqQ args [.agg [.sl 4 [[.str [97], .int .i64 1, .int .i64 2, .int .i64 0]] .tight, .sl 0 [] .nil, .sl 0 [] .nil, .sl 0 [] .nil, .sl 1 [[.sl 1 [[.int .i64 0]] .tight]] .tight]]) (some (.tup [.sl 4 [] .none, .int .i64 0])) <|
  pickB (Nat.beq g 33 && leqQ args [.agg [.sl 4 [[.str [97], .int .i64 1, .int .i64 2, .int .i64 0]] .tight, .sl 4 [[.int .i64 23, .int .i64 0, .str [], .sl 4 [[.int .i64 2, .int .i64 0, .str [97], .sl 0 [] .nil], [.int .i64 1, .int .i64 0, .str [], .sl 0 [] .nil], [.int .i64 1, .int .i64 0, .str [], .sl 0 [] .nil]] .none]] .none, .sl 0 [] .nil, .sl 0 [] .nil, .sl 1 [[.sl 1 [[.int .i64 0]] .tight]] .tight]]) (some (.tup [.sl 4 [[.int .i64 23, .int .i64 0, .str [], .sl 4 [[.int .i64 2, .int .i64 0, .str [97], .sl 4 [] .none], [.int .i64 1, .int .i64 0, .str [], .sl 4 [] .none], [.int .i64 1, .int .i64 0, .str [], .sl 4 [] .none]] .none]] .none, .int .i64 0])) <|
  pickB (Nat.beq g 37 && leqQ args [.agg [.sl 4 [[.str [97], .int .i64 1, .int .i64 2, .int .i64 0]] .tight, .sl 0 [] .nil, .sl 0 [] .nil, .sl 0 [] .nil, .sl 1 [[.sl 1 [[.int .i64 0]] .tight]] .tight], .agg [.int .u64 1, .int .u64 0]]) (some (.tup [.sl 1 [[.int .i64 1]] .none, .agg [.int .u64 1, .int .u64 1], .int .i64 0])) <|
  pickB (Nat.beq g 37 && leqQ args [.agg [.sl 4 [[.str [97], .int .i64 1, .int .i64 2, .int .i64 0]] .tight, .sl 4 [[.int .i64 23, .int .i64 0, .str [], .sl 4 [[.int .i64 2, .int .i64 0, .str [97], .sl 0 [] .nil], [.int .i64 1, .int .i64 0, .str [], .sl 0 [] .nil], [.int .i64 1, .int .i64 0, .str [], .sl 0 [] .nil]] .none]] .none, .sl 0 [] .nil, .sl 0 [] .nil, .sl 1 [[.sl 1 [[.int .i64 0]] .tight]] .tight], .agg [.int .u64 1, .int .u64 1]]) (some (.tup [.sl 1 [[.int .i64 0]] .none, .agg [.int .u64 1, .int .u64 2], .int .i64 0])) <|
  pickB (Nat.beq g 36 && leqQ args [.str [97], .sl 1 [[.int .i64 0]] .none]) (some (.agg [.int .i64 23, .int .i64 0, .str [], .sl 4 [[.int .i64 2, .int .i64 0, .str [97], .sl 0 [] .nil], [.int .i64 1, .int .i64 0, .str [], .sl 0 [] .nil], [.int .i64 1, .int .i64 0, .str [], .sl 0 [] .nil]] .none])) <|
  none
theorem XC_ok : ConX Tryz.prog GG XC := by
  intro g args r h
  unfold XC at h
  rcases conX_step valid0F h with h | h
  · exact h
  rcases conX_step valid1F h with h | h
  · exact h
  rcases conX_step rules0F h with h | h
  · exact h
  rcases conX_step rules1F h with h | h
  · exact h
  rcases conX_step solve0F h with h | h
  · exact h
  rcases conX_step solve1F h with h | h
  · exact h
  rcases conX_step member63F h with h | h
  · exact h
  cases h
theorem startF : Pure Tryz.prog GG 8 [.agg [.sl 4 [[.str [97], .int .i64 1, .int .i64 2, .int .i64 0]] .tight, .sl 0 [] .nil, .sl 0 [] .nil, .sl 0 [] .nil, .sl 1 [[.sl 1 [[.int .i64 0]] .tight]] .tight]] (.agg [.sl 1 [[.sl 0 [] .nil]] .none]) := Pure.closedA FW_ok (K := K0) X0_ok 2000 60 (by kernel_rfl)
theorem cyc0F : Pure Tryz.prog GG 19 [.agg [.sl 4 [[.str [97], .int .i64 1, .int .i64 2, .int .i64 0]] .tight, .sl 0 [] .nil, .sl 0 [] .nil, .sl 0 [] .nil, .sl 1 [[.sl 1 [[.int .i64 0]] .tight]] .tight], .agg [.sl 1 [[.sl 0 [] .nil]] .none], .agg [.int .u64 1, .int .u64 0]] (.tup [.sl 1 [[.int .i64 1]] .none, .agg [.sl 1 [[.sl 1 [[.int .i64 1]] .none]] .none], .agg [.int .u64 1, .int .u64 1], .int .i64 0]) := Pure.closedA FC_ok (K := KC) XC_ok 2000 60 (by kernel_rfl)
theorem cyc1F : Pure Tryz.prog GG 19 [.agg [.sl 4 [[.str [97], .int .i64 1, .int .i64 2, .int .i64 0]] .tight, .sl 0 [] .nil, .sl 0 [] .nil, .sl 0 [] .nil, .sl 1 [[.sl 1 [[.int .i64 0]] .tight]] .tight], .agg [.sl 1 [[.sl 1 [[.int .i64 1]] .none]] .none], .agg [.int .u64 1, .int .u64 1]] (.tup [.sl 1 [[.int .i64 0]] .none, .agg [.sl 1 [[.sl 1 [[.int .i64 1], [.int .i64 0]] .none]] .none], .agg [.int .u64 1, .int .u64 2], .int .i64 0]) := Pure.closedA FC_ok (K := KC) XC_ok 2000 60 (by kernel_rfl)
def KW (g : FuncId) : Bool := Nat.beq g 8 || Nat.beq g 19 || Nat.beq g 20
def XW (g : FuncId) (args : List AV) : Option AV :=
  pickB (Nat.beq g 20 && leqQ args [.agg [.sl 4 [[.str [97], .int .i64 1, .int .i64 2, .int .i64 0]] .tight, .sl 0 [] .nil, .sl 0 [] .nil, .sl 0 [] .nil, .sl 1 [[.sl 1 [[.int .i64 0]] .tight]] .tight]]) (some (.int .i64 0)) <|
  pickB (Nat.beq g 8 && leqQ args [.agg [.sl 4 [[.str [97], .int .i64 1, .int .i64 2, .int .i64 0]] .tight, .sl 0 [] .nil, .sl 0 [] .nil, .sl 0 [] .nil, .sl 1 [[.sl 1 [[.int .i64 0]] .tight]] .tight]]) (some (.agg [.sl 1 [[.sl 0 [] .nil]] .none])) <|
  pickB (Nat.beq g 19 && leqQ args [.agg [.sl 4 [[.str [97], .int .i64 1, .int .i64 2, .int .i64 0]] .tight, .sl 0 [] .nil, .sl 0 [] .nil, .sl 0 [] .nil, .sl 1 [[.sl 1 [[.int .i64 0]] .tight]] .tight], .agg [.sl 1 [[.sl 0 [] .nil]] .none], .agg [.int .u64 1, .int .u64 0]]) (some (.tup [.sl 1 [[.int .i64 1]] .none, .agg [.sl 1 [[.sl 1 [[.int .i64 1]] .none]] .none], .agg [.int .u64 1, .int .u64 1], .int .i64 0])) <|
  pickB (Nat.beq g 19 && leqQ args [.agg [.sl 4 [[.str [97], .int .i64 1, .int .i64 2, .int .i64 0]] .tight, .sl 0 [] .nil, .sl 0 [] .nil, .sl 0 [] .nil, .sl 1 [[.sl 1 [[.int .i64 0]] .tight]] .tight], .agg [.sl 1 [[.sl 1 [[.int .i64 1]] .none]] .none], .agg [.int .u64 1, .int .u64 1]]) (some (.tup [.sl 1 [[.int .i64 0]] .none, .agg [.sl 1 [[.sl 1 [[.int .i64 1], [.int .i64 0]] .none]] .none], .agg [.int .u64 1, .int .u64 2], .int .i64 0])) <|
  none
theorem XW_ok : ConX Tryz.prog GG XW := by
  intro g args r h
  unfold XW at h
  rcases conX_step valid0F h with h | h
  · exact h
  rcases conX_step startF h with h | h
  · exact h
  rcases conX_step cyc0F h with h | h
  · exact h
  rcases conX_step cyc1F h with h | h
  · exact h
  cases h
theorem awakeF : Pure Tryz.prog GG 6 [] (.bool true) := Pure.closedA FW_ok (K := KW) XW_ok 2000 60 (by kernel_rfl)
end Go.Proofs.YtpjdjolphpfanaaGreatDoor
end
