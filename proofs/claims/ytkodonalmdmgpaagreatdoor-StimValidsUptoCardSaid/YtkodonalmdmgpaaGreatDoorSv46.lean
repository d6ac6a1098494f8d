import Derived.Test.YtkodonalmdmgpaaGreatDoorSv38
set_option maxRecDepth 1000000
set_option linter.all false
set_option linter.defProp false
section
namespace Go.Proofs.YtkodonalmdmgpaaGreatDoor
open Go Go.Abs
theorem valid1F:Pure Tryz.prog GG 7 [.agg [.int .i64 3,.int .i64 2,.str [],.sl 0 [] .nil,.sl 5 [[.int .i64 1,.int .i64 0,.str [111,110,101],.sl 0 [] .nil,.sl 0 [] .nil],[.int .i64 1,.int .i64 0,.str [111,110,101],.sl 0 [] .nil,.sl 0 [] .nil]] .tight]] (.int .i64 0):=Pure.closedA FA_ok (K:=K0) X0_ok 2000 60 (by kernel_rfl)
def KY1 (g:FuncId):Bool:=Nat.beq g 7
def XY1 (g:FuncId) (args:List AV):Option AV :=
 pickB (Nat.beq g 7&&leqQ args [.agg [.int .i64 3,.int .i64 2,.str [],.sl 0 [] .nil,.sl 5 [[.int .i64 1,.int .i64 0,.str [111,110,101],.sl 0 [] .nil,.sl 0 [] .nil],[.int .i64 1,.int .i64 0,.str [111,110,101],.sl 0 [] .nil,.sl 0 [] .nil]] .tight]]) (some (.int .i64 0)) <|
 none
theorem XY1_ok:ConX Tryz.prog GG XY1:=by
 intro g args r h
 unfold XY1 at h
 rcases conX_step valid1F h with h|h
 · exact h
 cases h
theorem size1F:Pure Tryz.prog GG 9 [.agg [.int .i64 3,.int .i64 2,.str [],.sl 0 [] .nil,.sl 5 [[.int .i64 1,.int .i64 0,.str [111,110,101],.sl 0 [] .nil,.sl 0 [] .nil],[.int .i64 1,.int .i64 0,.str [111,110,101],.sl 0 [] .nil,.sl 0 [] .nil]] .tight]] (.int .i64 3):=Pure.closedA FA_ok (K:=KY1) XY1_ok 2000 60 (by kernel_rfl)
theorem length1F:Pure Tryz.prog GG 11 [.agg [.int .i64 3,.int .i64 2,.str [],.sl 0 [] .nil,.sl 5 [[.int .i64 1,.int .i64 0,.str [111,110,101],.sl 0 [] .nil,.sl 0 [] .nil],[.int .i64 1,.int .i64 0,.str [111,110,101],.sl 0 [] .nil,.sl 0 [] .nil]] .tight]] (.int .i64 4):=Pure.closedA FA_ok (K:=KY1) XY1_ok 2000 60 (by kernel_rfl)
theorem valid2F:Pure Tryz.prog GG 7 [.agg [.int .i64 5,.int .i64 0,.str [],.sl 0 [] .nil,.sl 5 [[.int .i64 2,.int .i64 0,.str [],.sl 0 [] .nil,.sl 5 [[.int .i64 1,.int .i64 0,.str [111,110,101],.sl 0 [] .nil,.sl 0 [] .nil],[.int .i64 1,.int .i64 0,.str [111,110,101],.sl 0 [] .nil,.sl 0 [] .nil]] .tight],[.int .i64 2,.int .i64 0,.str [],.sl 0 [] .nil,.sl 5 [[.int .i64 1,.int .i64 0,.str [111,110,101],.sl 0 [] .nil,.sl 0 [] .nil],[.int .i64 1,.int .i64 0,.str [111,110,101],.sl 0 [] .nil,.sl 0 [] .nil]] .tight]] .tight]] (.int .i64 0):=Pure.closedA FA_ok (K:=K0) X0_ok 2000 60 (by kernel_rfl)
def KY2 (g:FuncId):Bool:=Nat.beq g 7
def XY2 (g:FuncId) (args:List AV):Option AV :=
 pickB (Nat.beq g 7&&leqQ args [.agg [.int .i64 5,.int .i64 0,.str [],.sl 0 [] .nil,.sl 5 [[.int .i64 2,.int .i64 0,.str [],.sl 0 [] .nil,.sl 5 [[.int .i64 1,.int .i64 0,.str [111,110,101],.sl 0 [] .nil,.sl 0 [] .nil],[.int .i64 1,.int .i64 0,.str [111,110,101],.sl 0 [] .nil,.sl 0 [] .nil]] .tight],[.int .i64 2,.int .i64 0,.str [],.sl 0 [] .nil,.sl 5 [[.int .i64 1,.int .i64 0,.str [111,110,101],.sl 0 [] .nil,.sl 0 [] .nil],[.int .i64 1,.int .i64 0,.str [111,110,101],.sl 0 [] .nil,.sl 0 [] .nil]] .tight]] .tight]]) (some (.int .i64 0)) <|
 none
theorem XY2_ok:ConX Tryz.prog GG XY2:=by
 intro g args r h
 unfold XY2 at h
 rcases conX_step valid2F h with h|h
 · exact h
 cases h
theorem size2F:Pure Tryz.prog GG 9 [.agg [.int .i64 5,.int .i64 0,.str [],.sl 0 [] .nil,.sl 5 [[.int .i64 2,.int .i64 0,.str [],.sl 0 [] .nil,.sl 5 [[.int .i64 1,.int .i64 0,.str [111,110,101],.sl 0 [] .nil,.sl 0 [] .nil],[.int .i64 1,.int .i64 0,.str [111,110,101],.sl 0 [] .nil,.sl 0 [] .nil]] .tight],[.int .i64 2,.int .i64 0,.str [],.sl 0 [] .nil,.sl 5 [[.int .i64 1,.int .i64 0,.str [111,110,101],.sl 0 [] .nil,.sl 0 [] .nil],[.int .i64 1,.int .i64 0,.str [111,110,101],.sl 0 [] .nil,.sl 0 [] .nil]] .tight]] .tight]] (.int .i64 7):=Pure.closedA FA_ok (K:=KY2) XY2_ok 2000 60 (by kernel_rfl)
theorem length2F:Pure Tryz.prog GG 11 [.agg [.int .i64 5,.int .i64 0,.str [],.sl 0 [] .nil,.sl 5 [[.int .i64 2,.int .i64 0,.str [],.sl 0 [] .nil,.sl 5 [[.int .i64 1,.int .i64 0,.str [111,110,101],.sl 0 [] .nil,.sl 0 [] .nil],[.int .i64 1,.int .i64 0,.str [111,110,101],.sl 0 [] .nil,.sl 0 [] .nil]] .tight],[.int .i64 2,.int .i64 0,.str [],.sl 0 [] .nil,.sl 5 [[.int .i64 1,.int .i64 0,.str [111,110,101],.sl 0 [] .nil,.sl 0 [] .nil],[.int .i64 1,.int .i64 0,.str [111,110,101],.sl 0 [] .nil,.sl 0 [] .nil]] .tight]] .tight]] (.int .i64 4):=Pure.closedA FA_ok (K:=KY2) XY2_ok 2000 60 (by kernel_rfl)
theorem valid0F:Pure Tryz.prog GG 7 [.agg [.int .i64 0,.int .i64 0,.str [],.sl 0 [] .nil,.sl 0 [] .nil]] (.int .i64 1):=Pure.closedA FA_ok (K:=K0) X0_ok 2000 60 (by kernel_rfl)
def KY0 (g:FuncId):Bool:=Nat.beq g 7
def XY0 (g:FuncId) (args:List AV):Option AV :=
 pickB (Nat.beq g 7&&leqQ args [.agg [.int .i64 0,.int .i64 0,.str [],.sl 0 [] .nil,.sl 0 [] .nil]]) (some (.int .i64 1)) <|
 none
theorem XY0_ok:ConX Tryz.prog GG XY0:=by
 intro g args r h
 unfold XY0 at h
 rcases conX_step valid0F h with h|h
 · exact h
 cases h
theorem size0F:Pure Tryz.prog GG 9 [.agg [.int .i64 0,.int .i64 0,.str [],.sl 0 [] .nil,.sl 0 [] .nil]] (.int .i64 0):=Pure.closedA FA_ok (K:=KY0) XY0_ok 2000 60 (by kernel_rfl)
theorem length0F:Pure Tryz.prog GG 11 [.agg [.int .i64 0,.int .i64 0,.str [],.sl 0 [] .nil,.sl 0 [] .nil]] (.int .i64 0):=Pure.closedA FA_ok (K:=KY0) XY0_ok 2000 60 (by kernel_rfl)
end Go.Proofs.YtkodonalmdmgpaaGreatDoor
end
