/- A part of the proof. -/
import Derived.Test.YtcadpamddlofjaaGreatDoorPa42
import Derived.SizedLaws
set_option linter.unusedVariables false
set_option maxRecDepth 1000000
set_option linter.unusedSimpArgs false
set_option maxHeartbeats 16000000
set_option linter.defProp false
section
namespace Go.Proofs.YtcadpamddlofjaaGreatDoor
open Go Go.Abs
theorem kept0F:Pure Tryz.prog GG 50 [.agg [.sl 4 [[.str [97],.int .i64 1,.int .i64 2,.int .i64 0]] .tight,.sl 0 [] .nil,.sl 0 [] .nil,.sl 0 [] .nil,.sl 1 [[.sl 1 [[.int .i64 0]] .tight]] .tight]] (.tup [.sl 1 [] .none,.int .i64 0]):=Pure.closedA kx (K:=KV) XV_ok 2000 60 (by kernel_rfl)
def KQ0 (g:FuncId):Bool:=Nat.beq g 21||Nat.beq g 50
def XQ0 (g:FuncId)(args:List AV):Option AV :=
 qK (Nat.beq g 21&&yr args [.agg [.sl 4 [[.str [97],.int .i64 1,.int .i64 2,.int .i64 0]] .tight,.sl 0 [] .nil,.sl 0 [] .nil,.sl 0 [] .nil,.sl 1 [[.sl 1 [[.int .i64 0]] .tight]] .tight]]) (some (.int .i64 0)) <|
 qK (Nat.beq g 21&&yr args [.agg [.sl 4 [[.str [97],.int .i64 1,.int .i64 2,.int .i64 0]] .tight,.sl 4 [[.int .i64 23,.int .i64 0,.str [],.sl 4 [[.int .i64 2,.int .i64 0,.str [97],.sl 0 [] .nil],[.int .i64 1,.int .i64 0,.str [],.sl 0 [] .nil],[.int .i64 1,.int .i64 0,.str [],.sl 0 [] .nil]] .none]] .none,.sl 0 [] .nil,.sl 0 [] .nil,.sl 1 [[.sl 1 [[.int .i64 0]] .tight]] .tight]]) (some (.int .i64 0)) <|
 qK (Nat.beq g 50&&yr args [.agg [.sl 4 [[.str [97],.int .i64 1,.int .i64 2,.int .i64 0]] .tight,.sl 0 [] .nil,.sl 0 [] .nil,.sl 0 [] .nil,.sl 1 [[.sl 1 [[.int .i64 0]] .tight]] .tight]]) (some (.tup [.sl 1 [] .none,.int .i64 0])) <|
 none
theorem XQ0_ok:qfF Tryz.prog GG XQ0:=by
 intro g args r h;unfold XQ0 at h;rcases qv wP h with h|h
 . exact h
 rcases qv Qa h with h|h
 . exact h
 rcases qv kept0F h with h|h
 . exact h
 cases h
theorem qgs:Pure Tryz.prog GG 23 [.agg [.sl 4 [[.str [97],.int .i64 1,.int .i64 2,.int .i64 0]] .tight,.sl 0 [] .nil,.sl 0 [] .nil,.sl 0 [] .nil,.sl 1 [[.sl 1 [[.int .i64 0]] .tight]] .tight]] (.tup [.sl 4 [] .none,.int .i64 0]):=Pure.closedA FR_ok (K:=KQ0) XQ0_ok 2000 60 (by kernel_rfl)
def KU0 (g:FuncId):Bool:=Nat.beq g 21||Nat.beq g 23||Nat.beq g 62
def XU0 (g:FuncId)(args:List AV):Option AV :=
 qK (Nat.beq g 21&&yr args [.agg [.sl 4 [[.str [97],.int .i64 1,.int .i64 2,.int .i64 0]] .tight,.sl 0 [] .nil,.sl 0 [] .nil,.sl 0 [] .nil,.sl 1 [[.sl 1 [[.int .i64 0]] .tight]] .tight]]) (some (.int .i64 0)) <|
 qK (Nat.beq g 21&&yr args [.agg [.sl 4 [[.str [97],.int .i64 1,.int .i64 2,.int .i64 0]] .tight,.sl 4 [[.int .i64 23,.int .i64 0,.str [],.sl 4 [[.int .i64 2,.int .i64 0,.str [97],.sl 0 [] .nil],[.int .i64 1,.int .i64 0,.str [],.sl 0 [] .nil],[.int .i64 1,.int .i64 0,.str [],.sl 0 [] .nil]] .none]] .none,.sl 0 [] .nil,.sl 0 [] .nil,.sl 1 [[.sl 1 [[.int .i64 0]] .tight]] .tight]]) (some (.int .i64 0)) <|
 qK (Nat.beq g 23&&yr args [.agg [.sl 4 [[.str [97],.int .i64 1,.int .i64 2,.int .i64 0]] .tight,.sl 0 [] .nil,.sl 0 [] .nil,.sl 0 [] .nil,.sl 1 [[.sl 1 [[.int .i64 0]] .tight]] .tight]]) (some (.tup [.sl 4 [] .none,.int .i64 0])) <|
 qK (Nat.beq g 62&&qcp args [.fn 102 [] [.rptr [.sl 1 [[.int .i64 0]] .tight]]]) (some (.sl 1 [[.int .i64 0]] .none)) <|
 none
theorem XU0_ok:qfF Tryz.prog GG XU0:=by
 intro g args r h;unfold XU0 at h;rcases qv wP h with h|h
 . exact h
 rcases qv Qa h with h|h
 . exact h
 rcases qv qgs h with h|h
 . exact h
 rcases qij (VS 0 .tight) h with h|h
 . exact h
 cases h
theorem qnm:Pure Tryz.prog GG 9 [.agg [.sl 4 [[.str [97],.int .i64 1,.int .i64 2,.int .i64 0]] .tight,.sl 0 [] .nil,.sl 0 [] .nil,.sl 0 [] .nil,.sl 1 [[.sl 1 [[.int .i64 0]] .tight]] .tight],.agg [.int .u64 1,.int .u64 0]] (.tup [.sl 1 [[.int .i64 1]] .none,.agg [.int .u64 1,.int .u64 1],.int .i64 0]):=Pure.closedA kx (K:=KU0) XU0_ok 2000 60 (by kernel_rfl)
theorem kept1F:Pure Tryz.prog GG 50 [.agg [.sl 4 [[.str [97],.int .i64 1,.int .i64 2,.int .i64 0]] .tight,.sl 4 [[.int .i64 23,.int .i64 0,.str [],.sl 4 [[.int .i64 2,.int .i64 0,.str [97],.sl 0 [] .nil],[.int .i64 1,.int .i64 0,.str [],.sl 0 [] .nil],[.int .i64 1,.int .i64 0,.str [],.sl 0 [] .nil]] .none]] .none,.sl 0 [] .nil,.sl 0 [] .nil,.sl 1 [[.sl 1 [[.int .i64 0]] .tight]] .tight]] (.tup [.sl 1 [] .none,.int .i64 0]):=Pure.closedA kx (K:=KV) XV_ok 2000 60 (by kernel_rfl)
def KQ1 (g:FuncId):Bool:=Nat.beq g 21||Nat.beq g 50
def XQ1 (g:FuncId)(args:List AV):Option AV :=
 qK (Nat.beq g 21&&yr args [.agg [.sl 4 [[.str [97],.int .i64 1,.int .i64 2,.int .i64 0]] .tight,.sl 0 [] .nil,.sl 0 [] .nil,.sl 0 [] .nil,.sl 1 [[.sl 1 [[.int .i64 0]] .tight]] .tight]]) (some (.int .i64 0)) <|
 qK (Nat.beq g 21&&yr args [.agg [.sl 4 [[.str [97],.int .i64 1,.int .i64 2,.int .i64 0]] .tight,.sl 4 [[.int .i64 23,.int .i64 0,.str [],.sl 4 [[.int .i64 2,.int .i64 0,.str [97],.sl 0 [] .nil],[.int .i64 1,.int .i64 0,.str [],.sl 0 [] .nil],[.int .i64 1,.int .i64 0,.str [],.sl 0 [] .nil]] .none]] .none,.sl 0 [] .nil,.sl 0 [] .nil,.sl 1 [[.sl 1 [[.int .i64 0]] .tight]] .tight]]) (some (.int .i64 0)) <|
 qK (Nat.beq g 50&&yr args [.agg [.sl 4 [[.str [97],.int .i64 1,.int .i64 2,.int .i64 0]] .tight,.sl 4 [[.int .i64 23,.int .i64 0,.str [],.sl 4 [[.int .i64 2,.int .i64 0,.str [97],.sl 0 [] .nil],[.int .i64 1,.int .i64 0,.str [],.sl 0 [] .nil],[.int .i64 1,.int .i64 0,.str [],.sl 0 [] .nil]] .none]] .none,.sl 0 [] .nil,.sl 0 [] .nil,.sl 1 [[.sl 1 [[.int .i64 0]] .tight]] .tight]]) (some (.tup [.sl 1 [] .none,.int .i64 0])) <|
 none
theorem XQ1_ok:qfF Tryz.prog GG XQ1:=by
 intro g args r h;unfold XQ1 at h;rcases qv wP h with h|h
 . exact h
 rcases qv Qa h with h|h
 . exact h
 rcases qv kept1F h with h|h
 . exact h
 cases h
theorem qgr:Pure Tryz.prog GG 23 [.agg [.sl 4 [[.str [97],.int .i64 1,.int .i64 2,.int .i64 0]] .tight,.sl 4 [[.int .i64 23,.int .i64 0,.str [],.sl 4 [[.int .i64 2,.int .i64 0,.str [97],.sl 0 [] .nil],[.int .i64 1,.int .i64 0,.str [],.sl 0 [] .nil],[.int .i64 1,.int .i64 0,.str [],.sl 0 [] .nil]] .none]] .none,.sl 0 [] .nil,.sl 0 [] .nil,.sl 1 [[.sl 1 [[.int .i64 0]] .tight]] .tight]] (.tup [.sl 4 [[.int .i64 23,.int .i64 0,.str [],.sl 4 [[.int .i64 2,.int .i64 0,.str [97],.sl 4 [] .none],[.int .i64 1,.int .i64 0,.str [],.sl 4 [] .none],[.int .i64 1,.int .i64 0,.str [],.sl 4 [] .none]] .none]] .none,.int .i64 0]):=Pure.closedA FR_ok (K:=KQ1) XQ1_ok 2000 60 (by kernel_rfl)
theorem dag0F:Pure Tryz.prog GG 235 [.agg [.sl 3 [[.int .i64 20,.int .i64 0,.int .i64 0],[.int .i64 20,.int .i64 1,.int .i64 1]] .tight],.int .i64 0] (.tup [.agg [.sl 3 [[.int .i64 20,.int .i64 0,.int .i64 0],[.int .i64 20,.int .i64 1,.int .i64 1],[.int .i64 0,.int .i64 0,.int .i64 1]] .none],.int .i64 2,.int .i64 0]):=Pure.closedA kx (K:=K0) jJ 2000 60 (by kernel_rfl)
theorem dag1F:Pure Tryz.prog GG 236 [.agg [.sl 3 [[.int .i64 20,.int .i64 0,.int .i64 0],[.int .i64 20,.int .i64 1,.int .i64 1],[.int .i64 0,.int .i64 0,.int .i64 1]] .none],.int .i64 2] (.tup [.agg [.sl 3 [[.int .i64 20,.int .i64 0,.int .i64 0],[.int .i64 20,.int .i64 1,.int .i64 1],[.int .i64 0,.int .i64 0,.int .i64 1],[.int .i64 0,.int .i64 1,.int .i64 0]] .none],.int .i64 3,.int .i64 0]):=Pure.closedA kx (K:=K0) jJ 2000 60 (by kernel_rfl)
theorem dag2F:Pure Tryz.prog GG 234 [.agg [.sl 3 [[.int .i64 20,.int .i64 0,.int .i64 0],[.int .i64 20,.int .i64 1,.int .i64 1],[.int .i64 0,.int .i64 0,.int .i64 1],[.int .i64 0,.int .i64 1,.int .i64 0]] .none],.int .i64 3,.int .i64 0] (.tup [.agg [.sl 3 [[.int .i64 20,.int .i64 0,.int .i64 0],[.int .i64 20,.int .i64 1,.int .i64 1],[.int .i64 0,.int .i64 0,.int .i64 1],[.int .i64 0,.int .i64 1,.int .i64 0]] .none],.int .i64 3,.int .i64 0]):=Pure.closedA kx (K:=K0) jJ 2000 60 (by kernel_rfl)
theorem dag3F:Pure Tryz.prog GG 234 [.agg [.sl 3 [[.int .i64 20,.int .i64 0,.int .i64 0],[.int .i64 20,.int .i64 1,.int .i64 1],[.int .i64 0,.int .i64 0,.int .i64 1],[.int .i64 0,.int .i64 1,.int .i64 0]] .none],.int .i64 0,.int .i64 3] (.tup [.agg [.sl 3 [[.int .i64 20,.int .i64 0,.int .i64 0],[.int .i64 20,.int .i64 1,.int .i64 1],[.int .i64 0,.int .i64 0,.int .i64 1],[.int .i64 0,.int .i64 1,.int .i64 0]] .none],.int .i64 3,.int .i64 0]):=Pure.closedA kx (K:=K0) jJ 2000 60 (by kernel_rfl)
theorem dag4F:Pure Tryz.prog GG 234 [.agg [.sl 3 [[.int .i64 20,.int .i64 0,.int .i64 0],[.int .i64 20,.int .i64 1,.int .i64 1],[.int .i64 0,.int .i64 0,.int .i64 1],[.int .i64 0,.int .i64 1,.int .i64 0]] .none],.int .i64 0,.int .i64 2] (.tup [.agg [.sl 3 [[.int .i64 20,.int .i64 0,.int .i64 0],[.int .i64 20,.int .i64 1,.int .i64 1],[.int .i64 0,.int .i64 0,.int .i64 1],[.int .i64 0,.int .i64 1,.int .i64 0]] .none],.int .i64 2,.int .i64 0]):=Pure.closedA kx (K:=K0) jJ 2000 60 (by kernel_rfl)
theorem dag5F:Pure Tryz.prog GG 234 [.agg [.sl 3 [[.int .i64 20,.int .i64 0,.int .i64 0],[.int .i64 20,.int .i64 1,.int .i64 1],[.int .i64 0,.int .i64 0,.int .i64 1],[.int .i64 0,.int .i64 1,.int .i64 0]] .none],.int .i64 2,.int .i64 0] (.tup [.agg [.sl 3 [[.int .i64 20,.int .i64 0,.int .i64 0],[.int .i64 20,.int .i64 1,.int .i64 1],[.int .i64 0,.int .i64 0,.int .i64 1],[.int .i64 0,.int .i64 1,.int .i64 0]] .none],.int .i64 2,.int .i64 0]):=Pure.closedA kx (K:=K0) jJ 2000 60 (by kernel_rfl)
theorem dag6F:Pure Tryz.prog GG 234 [.agg [.sl 3 [[.int .i64 20,.int .i64 0,.int .i64 0],[.int .i64 20,.int .i64 1,.int .i64 1],[.int .i64 0,.int .i64 0,.int .i64 1],[.int .i64 0,.int .i64 1,.int .i64 0]] .none],.int .i64 0,.int .i64 0] (.tup [.agg [.sl 3 [[.int .i64 20,.int .i64 0,.int .i64 0],[.int .i64 20,.int .i64 1,.int .i64 1],[.int .i64 0,.int .i64 0,.int .i64 1],[.int .i64 0,.int .i64 1,.int .i64 0]] .none],.int .i64 0,.int .i64 0]):=Pure.closedA kx (K:=K0) jJ 2000 60 (by kernel_rfl)
theorem dag7F:Pure Tryz.prog GG 92 [.agg [.sl 3 [[.int .i64 20,.int .i64 0,.int .i64 0],[.int .i64 20,.int .i64 1,.int .i64 1],[.int .i64 0,.int .i64 0,.int .i64 1],[.int .i64 0,.int .i64 1,.int .i64 0]] .none],.int .i64 1,.int .i64 3] (.tup [.agg [.sl 3 [[.int .i64 20,.int .i64 0,.int .i64 0],[.int .i64 20,.int .i64 1,.int .i64 1],[.int .i64 0,.int .i64 0,.int .i64 1],[.int .i64 0,.int .i64 1,.int .i64 0]] .none],.int .i64 3,.int .i64 0]):=Pure.closedA kx (K:=K0) jJ 2000 60 (by kernel_rfl)
theorem dag8F:Pure Tryz.prog GG 92 [.agg [.sl 3 [[.int .i64 20,.int .i64 0,.int .i64 0],[.int .i64 20,.int .i64 1,.int .i64 1],[.int .i64 0,.int .i64 0,.int .i64 1],[.int .i64 0,.int .i64 1,.int .i64 0]] .none],.int .i64 1,.int .i64 2] (.tup [.agg [.sl 3 [[.int .i64 20,.int .i64 0,.int .i64 0],[.int .i64 20,.int .i64 1,.int .i64 1],[.int .i64 0,.int .i64 0,.int .i64 1],[.int .i64 0,.int .i64 1,.int .i64 0]] .none],.int .i64 2,.int .i64 0]):=Pure.closedA kx (K:=K0) jJ 2000 60 (by kernel_rfl)
theorem dag9F:Pure Tryz.prog GG 92 [.agg [.sl 3 [[.int .i64 20,.int .i64 0,.int .i64 0],[.int .i64 20,.int .i64 1,.int .i64 1],[.int .i64 0,.int .i64 0,.int .i64 1],[.int .i64 0,.int .i64 1,.int .i64 0]] .none],.int .i64 1,.int .i64 0] (.tup [.agg [.sl 3 [[.int .i64 20,.int .i64 0,.int .i64 0],[.int .i64 20,.int .i64 1,.int .i64 1],[.int .i64 0,.int .i64 0,.int .i64 1],[.int .i64 0,.int .i64 1,.int .i64 0]] .none],.int .i64 0,.int .i64 0]):=Pure.closedA kx (K:=K0) jJ 2000 60 (by kernel_rfl)
theorem dag10F:Pure Tryz.prog GG 92 [.agg [.sl 3 [[.int .i64 20,.int .i64 0,.int .i64 0],[.int .i64 20,.int .i64 1,.int .i64 1],[.int .i64 0,.int .i64 0,.int .i64 1],[.int .i64 0,.int .i64 1,.int .i64 0]] .none],.int .i64 3,.int .i64 0] (.tup [.agg [.sl 3 [[.int .i64 20,.int .i64 0,.int .i64 0],[.int .i64 20,.int .i64 1,.int .i64 1],[.int .i64 0,.int .i64 0,.int .i64 1],[.int .i64 0,.int .i64 1,.int .i64 0]] .none],.int .i64 0,.int .i64 0]):=Pure.closedA kx (K:=K0) jJ 2000 60 (by kernel_rfl)
theorem dag11F:Pure Tryz.prog GG 271 [.agg [.sl 3 [[.int .i64 20,.int .i64 0,.int .i64 0],[.int .i64 20,.int .i64 1,.int .i64 1],[.int .i64 0,.int .i64 0,.int .i64 1],[.int .i64 0,.int .i64 1,.int .i64 0]] .none],.int .i64 0,.int .i64 2] (.tup [.agg [.sl 3 [[.int .i64 20,.int .i64 0,.int .i64 0],[.int .i64 20,.int .i64 1,.int .i64 1],[.int .i64 0,.int .i64 0,.int .i64 1],[.int .i64 0,.int .i64 1,.int .i64 0]] .none],.int .i64 2,.int .i64 0]):=Pure.closedA kx (K:=K0) jJ 2000 60 (by kernel_rfl)
theorem dag12F:Pure Tryz.prog GG 271 [.agg [.sl 3 [[.int .i64 20,.int .i64 0,.int .i64 0],[.int .i64 20,.int .i64 1,.int .i64 1],[.int .i64 0,.int .i64 0,.int .i64 1],[.int .i64 0,.int .i64 1,.int .i64 0]] .none],.int .i64 0,.int .i64 0] (.tup [.agg [.sl 3 [[.int .i64 20,.int .i64 0,.int .i64 0],[.int .i64 20,.int .i64 1,.int .i64 1],[.int .i64 0,.int .i64 0,.int .i64 1],[.int .i64 0,.int .i64 1,.int .i64 0]] .none],.int .i64 0,.int .i64 0]):=Pure.closedA kx (K:=K0) jJ 2000 60 (by kernel_rfl)
theorem dag13F:Pure Tryz.prog GG 271 [.agg [.sl 3 [[.int .i64 20,.int .i64 0,.int .i64 0],[.int .i64 20,.int .i64 1,.int .i64 1],[.int .i64 0,.int .i64 0,.int .i64 1],[.int .i64 0,.int .i64 1,.int .i64 0]] .none],.int .i64 2,.int .i64 0] (.tup [.agg [.sl 3 [[.int .i64 20,.int .i64 0,.int .i64 0],[.int .i64 20,.int .i64 1,.int .i64 1],[.int .i64 0,.int .i64 0,.int .i64 1],[.int .i64 0,.int .i64 1,.int .i64 0]] .none],.int .i64 2,.int .i64 0]):=Pure.closedA kx (K:=K0) jJ 2000 60 (by kernel_rfl)
theorem dag14F:Pure Tryz.prog GG 236 [.agg [.sl 3 [[.int .i64 20,.int .i64 0,.int .i64 0],[.int .i64 20,.int .i64 1,.int .i64 1],[.int .i64 0,.int .i64 0,.int .i64 1],[.int .i64 0,.int .i64 1,.int .i64 0]] .none],.int .i64 0] (.tup [.agg [.sl 3 [[.int .i64 20,.int .i64 0,.int .i64 0],[.int .i64 20,.int .i64 1,.int .i64 1],[.int .i64 0,.int .i64 0,.int .i64 1],[.int .i64 0,.int .i64 1,.int .i64 0]] .none],.int .i64 1,.int .i64 0]):=Pure.closedA kx (K:=K0) jJ 2000 60 (by kernel_rfl)
theorem dag15F:Pure Tryz.prog GG 236 [.agg [.sl 3 [[.int .i64 20,.int .i64 0,.int .i64 0],[.int .i64 20,.int .i64 1,.int .i64 1],[.int .i64 0,.int .i64 0,.int .i64 1],[.int .i64 0,.int .i64 1,.int .i64 0]] .none],.int .i64 2] (.tup [.agg [.sl 3 [[.int .i64 20,.int .i64 0,.int .i64 0],[.int .i64 20,.int .i64 1,.int .i64 1],[.int .i64 0,.int .i64 0,.int .i64 1],[.int .i64 0,.int .i64 1,.int .i64 0]] .none],.int .i64 3,.int .i64 0]):=Pure.closedA kx (K:=K0) jJ 2000 60 (by kernel_rfl)
def KT (g:FuncId):Bool:=Nat.beq g 21||Nat.beq g 92||Nat.beq g 234||Nat.beq g 235||Nat.beq g 236||Nat.beq g 271
def XT (g:FuncId)(args:List AV):Option AV :=
 qK (Nat.beq g 235&&yr args [.agg [.sl 3 [[.int .i64 20,.int .i64 0,.int .i64 0],[.int .i64 20,.int .i64 1,.int .i64 1]] .tight],.int .i64 0]) (some (.tup [.agg [.sl 3 [[.int .i64 20,.int .i64 0,.int .i64 0],[.int .i64 20,.int .i64 1,.int .i64 1],[.int .i64 0,.int .i64 0,.int .i64 1]] .none],.int .i64 2,.int .i64 0])) <|
 qK (Nat.beq g 236&&yr args [.agg [.sl 3 [[.int .i64 20,.int .i64 0,.int .i64 0],[.int .i64 20,.int .i64 1,.int .i64 1],[.int .i64 0,.int .i64 0,.int .i64 1]] .none],.int .i64 2]) (some (.tup [.agg [.sl 3 [[.int .i64 20,.int .i64 0,.int .i64 0],[.int .i64 20,.int .i64 1,.int .i64 1],[.int .i64 0,.int .i64 0,.int .i64 1],[.int .i64 0,.int .i64 1,.int .i64 0]] .none],.int .i64 3,.int .i64 0])) <|
 qK (Nat.beq g 234&&yr args [.agg [.sl 3 [[.int .i64 20,.int .i64 0,.int .i64 0],[.int .i64 20,.int .i64 1,.int .i64 1],[.int .i64 0,.int .i64 0,.int .i64 1],[.int .i64 0,.int .i64 1,.int .i64 0]] .none],.int .i64 3,.int .i64 0]) (some (.tup [.agg [.sl 3 [[.int .i64 20,.int .i64 0,.int .i64 0],[.int .i64 20,.int .i64 1,.int .i64 1],[.int .i64 0,.int .i64 0,.int .i64 1],[.int .i64 0,.int .i64 1,.int .i64 0]] .none],.int .i64 3,.int .i64 0])) <|
 qK (Nat.beq g 234&&yr args [.agg [.sl 3 [[.int .i64 20,.int .i64 0,.int .i64 0],[.int .i64 20,.int .i64 1,.int .i64 1],[.int .i64 0,.int .i64 0,.int .i64 1],[.int .i64 0,.int .i64 1,.int .i64 0]] .none],.int .i64 0,.int .i64 3]) (some (.tup [.agg [.sl 3 [[.int .i64 20,.int .i64 0,.int .i64 0],[.int .i64 20,.int .i64 1,.int .i64 1],[.int .i64 0,.int .i64 0,.int .i64 1],[.int .i64 0,.int .i64 1,.int .i64 0]] .none],.int .i64 3,.int .i64 0])) <|
 qK (Nat.beq g 234&&yr args [.agg [.sl 3 [[.int .i64 20,.int .i64 0,.int .i64 0],[.int .i64 20,.int .i64 1,.int .i64 1],[.int .i64 0,.int .i64 0,.int .i64 1],[.int .i64 0,.int .i64 1,.int .i64 0]] .none],.int .i64 0,.int .i64 2]) (some (.tup [.agg [.sl 3 [[.int .i64 20,.int .i64 0,.int .i64 0],[.int .i64 20,.int .i64 1,.int .i64 1],[.int .i64 0,.int .i64 0,.int .i64 1],[.int .i64 0,.int .i64 1,.int .i64 0]] .none],.int .i64 2,.int .i64 0])) <|
 qK (Nat.beq g 234&&yr args [.agg [.sl 3 [[.int .i64 20,.int .i64 0,.int .i64 0],[.int .i64 20,.int .i64 1,.int .i64 1],[.int .i64 0,.int .i64 0,.int .i64 1],[.int .i64 0,.int .i64 1,.int .i64 0]] .none],.int .i64 2,.int .i64 0]) (some (.tup [.agg [.sl 3 [[.int .i64 20,.int .i64 0,.int .i64 0],[.int .i64 20,.int .i64 1,.int .i64 1],[.int .i64 0,.int .i64 0,.int .i64 1],[.int .i64 0,.int .i64 1,.int .i64 0]] .none],.int .i64 2,.int .i64 0])) <|
 qK (Nat.beq g 234&&yr args [.agg [.sl 3 [[.int .i64 20,.int .i64 0,.int .i64 0],[.int .i64 20,.int .i64 1,.int .i64 1],[.int .i64 0,.int .i64 0,.int .i64 1],[.int .i64 0,.int .i64 1,.int .i64 0]] .none],.int .i64 0,.int .i64 0]) (some (.tup [.agg [.sl 3 [[.int .i64 20,.int .i64 0,.int .i64 0],[.int .i64 20,.int .i64 1,.int .i64 1],[.int .i64 0,.int .i64 0,.int .i64 1],[.int .i64 0,.int .i64 1,.int .i64 0]] .none],.int .i64 0,.int .i64 0])) <|
 qK (Nat.beq g 92&&yr args [.agg [.sl 3 [[.int .i64 20,.int .i64 0,.int .i64 0],[.int .i64 20,.int .i64 1,.int .i64 1],[.int .i64 0,.int .i64 0,.int .i64 1],[.int .i64 0,.int .i64 1,.int .i64 0]] .none],.int .i64 1,.int .i64 3]) (some (.tup [.agg [.sl 3 [[.int .i64 20,.int .i64 0,.int .i64 0],[.int .i64 20,.int .i64 1,.int .i64 1],[.int .i64 0,.int .i64 0,.int .i64 1],[.int .i64 0,.int .i64 1,.int .i64 0]] .none],.int .i64 3,.int .i64 0])) <|
 qK (Nat.beq g 92&&yr args [.agg [.sl 3 [[.int .i64 20,.int .i64 0,.int .i64 0],[.int .i64 20,.int .i64 1,.int .i64 1],[.int .i64 0,.int .i64 0,.int .i64 1],[.int .i64 0,.int .i64 1,.int .i64 0]] .none],.int .i64 1,.int .i64 2]) (some (.tup [.agg [.sl 3 [[.int .i64 20,.int .i64 0,.int .i64 0],[.int .i64 20,.int .i64 1,.int .i64 1],[.int .i64 0,.int .i64 0,.int .i64 1],[.int .i64 0,.int .i64 1,.int .i64 0]] .none],.int .i64 2,.int .i64 0])) <|
 qK (Nat.beq g 92&&yr args [.agg [.sl 3 [[.int .i64 20,.int .i64 0,.int .i64 0],[.int .i64 20,.int .i64 1,.int .i64 1],[.int .i64 0,.int .i64 0,.int .i64 1],[.int .i64 0,.int .i64 1,.int .i64 0]] .none],.int .i64 1,.int .i64 0]) (some (.tup [.agg [.sl 3 [[.int .i64 20,.int .i64 0,.int .i64 0],[.int .i64 20,.int .i64 1,.int .i64 1],[.int .i64 0,.int .i64 0,.int .i64 1],[.int .i64 0,.int .i64 1,.int .i64 0]] .none],.int .i64 0,.int .i64 0])) <|
 qK (Nat.beq g 92&&yr args [.agg [.sl 3 [[.int .i64 20,.int .i64 0,.int .i64 0],[.int .i64 20,.int .i64 1,.int .i64 1],[.int .i64 0,.int .i64 0,.int .i64 1],[.int .i64 0,.int .i64 1,.int .i64 0]] .none],.int .i64 3,.int .i64 0]) (some (.tup [.agg [.sl 3 [[.int .i64 20,.int .i64 0,.int .i64 0],[.int .i64 20,.int .i64 1,.int .i64 1],[.int .i64 0,.int .i64 0,.int .i64 1],[.int .i64 0,.int .i64 1,.int .i64 0]] .none],.int .i64 0,.int .i64 0])) <|
 qK (Nat.beq g 271&&yr args [.agg [.sl 3 [[.int .i64 20,.int .i64 0,.int .i64 0],[.int .i64 20,.int .i64 1,.int .i64 1],[.int .i64 0,.int .i64 0,.int .i64 1],[.int .i64 0,.int .i64 1,.int .i64 0]] .none],.int .i64 0,.int .i64 2]) (some (.tup [.agg [.sl 3 [[.int .i64 20,.int .i64 0,.int .i64 0],[.int .i64 20,.int .i64 1,.int .i64 1],[.int .i64 0,.int .i64 0,.int .i64 1],[.int .i64 0,.int .i64 1,.int .i64 0]] .none],.int .i64 2,.int .i64 0])) <|
 qK (Nat.beq g 271&&yr args [.agg [.sl 3 [[.int .i64 20,.int .i64 0,.int .i64 0],[.int .i64 20,.int .i64 1,.int .i64 1],[.int .i64 0,.int .i64 0,.int .i64 1],[.int .i64 0,.int .i64 1,.int .i64 0]] .none],.int .i64 0,.int .i64 0]) (some (.tup [.agg [.sl 3 [[.int .i64 20,.int .i64 0,.int .i64 0],[.int .i64 20,.int .i64 1,.int .i64 1],[.int .i64 0,.int .i64 0,.int .i64 1],[.int .i64 0,.int .i64 1,.int .i64 0]] .none],.int .i64 0,.int .i64 0])) <|
 qK (Nat.beq g 271&&yr args [.agg [.sl 3 [[.int .i64 20,.int .i64 0,.int .i64 0],[.int .i64 20,.int .i64 1,.int .i64 1],[.int .i64 0,.int .i64 0,.int .i64 1],[.int .i64 0,.int .i64 1,.int .i64 0]] .none],.int .i64 2,.int .i64 0]) (some (.tup [.agg [.sl 3 [[.int .i64 20,.int .i64 0,.int .i64 0],[.int .i64 20,.int .i64 1,.int .i64 1],[.int .i64 0,.int .i64 0,.int .i64 1],[.int .i64 0,.int .i64 1,.int .i64 0]] .none],.int .i64 2,.int .i64 0])) <|
 qK (Nat.beq g 236&&yr args [.agg [.sl 3 [[.int .i64 20,.int .i64 0,.int .i64 0],[.int .i64 20,.int .i64 1,.int .i64 1],[.int .i64 0,.int .i64 0,.int .i64 1],[.int .i64 0,.int .i64 1,.int .i64 0]] .none],.int .i64 0]) (some (.tup [.agg [.sl 3 [[.int .i64 20,.int .i64 0,.int .i64 0],[.int .i64 20,.int .i64 1,.int .i64 1],[.int .i64 0,.int .i64 0,.int .i64 1],[.int .i64 0,.int .i64 1,.int .i64 0]] .none],.int .i64 1,.int .i64 0])) <|
 qK (Nat.beq g 236&&yr args [.agg [.sl 3 [[.int .i64 20,.int .i64 0,.int .i64 0],[.int .i64 20,.int .i64 1,.int .i64 1],[.int .i64 0,.int .i64 0,.int .i64 1],[.int .i64 0,.int .i64 1,.int .i64 0]] .none],.int .i64 2]) (some (.tup [.agg [.sl 3 [[.int .i64 20,.int .i64 0,.int .i64 0],[.int .i64 20,.int .i64 1,.int .i64 1],[.int .i64 0,.int .i64 0,.int .i64 1],[.int .i64 0,.int .i64 1,.int .i64 0]] .none],.int .i64 3,.int .i64 0])) <|
 qK (Nat.beq g 21&&yr args [.agg [.sl 4 [[.str [97],.int .i64 1,.int .i64 2,.int .i64 0]] .tight,.sl 0 [] .nil,.sl 0 [] .nil,.sl 0 [] .nil,.sl 1 [[.sl 1 [[.int .i64 0]] .tight]] .tight]]) (some (.int .i64 0)) <|
 qK (Nat.beq g 21&&yr args [.agg [.sl 4 [[.str [97],.int .i64 1,.int .i64 2,.int .i64 0]] .tight,.sl 4 [[.int .i64 23,.int .i64 0,.str [],.sl 4 [[.int .i64 2,.int .i64 0,.str [97],.sl 0 [] .nil],[.int .i64 1,.int .i64 0,.str [],.sl 0 [] .nil],[.int .i64 1,.int .i64 0,.str [],.sl 0 [] .nil]] .none]] .none,.sl 0 [] .nil,.sl 0 [] .nil,.sl 1 [[.sl 1 [[.int .i64 0]] .tight]] .tight]]) (some (.int .i64 0)) <|
 none
theorem XT_ok:qfF Tryz.prog GG XT:=by
 intro g args r h;unfold XT at h;rcases qv dag0F h with h|h
 . exact h
 rcases qv dag1F h with h|h
 . exact h
 rcases qv dag2F h with h|h
 . exact h
 rcases qv dag3F h with h|h
 . exact h
 rcases qv dag4F h with h|h
 . exact h
 rcases qv dag5F h with h|h
 . exact h
 rcases qv dag6F h with h|h
 . exact h
 rcases qv dag7F h with h|h
 . exact h
 rcases qv dag8F h with h|h
 . exact h
 rcases qv dag9F h with h|h
 . exact h
 rcases qv dag10F h with h|h
 . exact h
 rcases qv dag11F h with h|h
 . exact h
 rcases qv dag12F h with h|h
 . exact h
 rcases qv dag13F h with h|h
 . exact h
 rcases qv dag14F h with h|h
 . exact h
 rcases qv dag15F h with h|h
 . exact h
 rcases qv wP h with h|h
 . exact h
 rcases qv Qa h with h|h
 . exact h
 cases h
theorem qnb:Pure Tryz.prog GG 91 [.agg [.sl 3 [[.int .i64 20,.int .i64 0,.int .i64 0],[.int .i64 20,.int .i64 1,.int .i64 1]] .tight],.agg [.sl 4 [[.str [97],.int .i64 1,.int .i64 2,.int .i64 0]] .tight,.sl 4 [[.int .i64 23,.int .i64 0,.str [],.sl 4 [[.int .i64 2,.int .i64 0,.str [97],.sl 0 [] .nil],[.int .i64 1,.int .i64 0,.str [],.sl 0 [] .nil],[.int .i64 1,.int .i64 0,.str [],.sl 0 [] .nil]] .none]] .none,.sl 0 [] .nil,.sl 0 [] .nil,.sl 1 [[.sl 1 [[.int .i64 0]] .tight]] .tight],.agg [.int .i64 23,.int .i64 0,.str [],.sl 4 [[.int .i64 2,.int .i64 0,.str [97],.sl 4 [] .none],[.int .i64 1,.int .i64 0,.str [],.sl 4 [] .none],[.int .i64 1,.int .i64 0,.str [],.sl 4 [] .none]] .none]] (.tup [.agg [.sl 3 [[.int .i64 20,.int .i64 0,.int .i64 0],[.int .i64 20,.int .i64 1,.int .i64 1],[.int .i64 0,.int .i64 0,.int .i64 1],[.int .i64 0,.int .i64 1,.int .i64 0]] .none],.int .i64 3,.int .i64 0]):=Pure.closedA kx (K:=KT) XT_ok 2000 60 (by kernel_rfl)
def KU1 (g:FuncId):Bool:=Nat.beq g 21||Nat.beq g 23||Nat.beq g 62||Nat.beq g 91
def XU1 (g:FuncId)(args:List AV):Option AV :=
 qK (Nat.beq g 21&&yr args [.agg [.sl 4 [[.str [97],.int .i64 1,.int .i64 2,.int .i64 0]] .tight,.sl 0 [] .nil,.sl 0 [] .nil,.sl 0 [] .nil,.sl 1 [[.sl 1 [[.int .i64 0]] .tight]] .tight]]) (some (.int .i64 0)) <|
 qK (Nat.beq g 21&&yr args [.agg [.sl 4 [[.str [97],.int .i64 1,.int .i64 2,.int .i64 0]] .tight,.sl 4 [[.int .i64 23,.int .i64 0,.str [],.sl 4 [[.int .i64 2,.int .i64 0,.str [97],.sl 0 [] .nil],[.int .i64 1,.int .i64 0,.str [],.sl 0 [] .nil],[.int .i64 1,.int .i64 0,.str [],.sl 0 [] .nil]] .none]] .none,.sl 0 [] .nil,.sl 0 [] .nil,.sl 1 [[.sl 1 [[.int .i64 0]] .tight]] .tight]]) (some (.int .i64 0)) <|
 qK (Nat.beq g 23&&yr args [.agg [.sl 4 [[.str [97],.int .i64 1,.int .i64 2,.int .i64 0]] .tight,.sl 4 [[.int .i64 23,.int .i64 0,.str [],.sl 4 [[.int .i64 2,.int .i64 0,.str [97],.sl 0 [] .nil],[.int .i64 1,.int .i64 0,.str [],.sl 0 [] .nil],[.int .i64 1,.int .i64 0,.str [],.sl 0 [] .nil]] .none]] .none,.sl 0 [] .nil,.sl 0 [] .nil,.sl 1 [[.sl 1 [[.int .i64 0]] .tight]] .tight]]) (some (.tup [.sl 4 [[.int .i64 23,.int .i64 0,.str [],.sl 4 [[.int .i64 2,.int .i64 0,.str [97],.sl 4 [] .none],[.int .i64 1,.int .i64 0,.str [],.sl 4 [] .none],[.int .i64 1,.int .i64 0,.str [],.sl 4 [] .none]] .none]] .none,.int .i64 0])) <|
 qK (Nat.beq g 62&&qcp args [.fn 102 [] [.rptr [.sl 1 [[.int .i64 0]] .tight]]]) (some (.sl 1 [[.int .i64 0]] .none)) <|
 qK (Nat.beq g 91&&yr args [.agg [.sl 3 [[.int .i64 20,.int .i64 0,.int .i64 0],[.int .i64 20,.int .i64 1,.int .i64 1]] .tight],.agg [.sl 4 [[.str [97],.int .i64 1,.int .i64 2,.int .i64 0]] .tight,.sl 4 [[.int .i64 23,.int .i64 0,.str [],.sl 4 [[.int .i64 2,.int .i64 0,.str [97],.sl 0 [] .nil],[.int .i64 1,.int .i64 0,.str [],.sl 0 [] .nil],[.int .i64 1,.int .i64 0,.str [],.sl 0 [] .nil]] .none]] .none,.sl 0 [] .nil,.sl 0 [] .nil,.sl 1 [[.sl 1 [[.int .i64 0]] .tight]] .tight],.agg [.int .i64 23,.int .i64 0,.str [],.sl 4 [[.int .i64 2,.int .i64 0,.str [97],.sl 4 [] .none],[.int .i64 1,.int .i64 0,.str [],.sl 4 [] .none],[.int .i64 1,.int .i64 0,.str [],.sl 4 [] .none]] .none]]) (some (.tup [.agg [.sl 3 [[.int .i64 20,.int .i64 0,.int .i64 0],[.int .i64 20,.int .i64 1,.int .i64 1],[.int .i64 0,.int .i64 0,.int .i64 1],[.int .i64 0,.int .i64 1,.int .i64 0]] .none],.int .i64 3,.int .i64 0])) <|
 none
theorem XU1_ok:qfF Tryz.prog GG XU1:=by
 intro g args r h;unfold XU1 at h;rcases qv wP h with h|h
 . exact h
 rcases qv Qa h with h|h
 . exact h
 rcases qv qgr h with h|h
 . exact h
 rcases qij (VS 0 .tight) h with h|h
 . exact h
 rcases qv qnb h with h|h
 . exact h
 cases h
theorem qnl:Pure Tryz.prog GG 9 [.agg [.sl 4 [[.str [97],.int .i64 1,.int .i64 2,.int .i64 0]] .tight,.sl 4 [[.int .i64 23,.int .i64 0,.str [],.sl 4 [[.int .i64 2,.int .i64 0,.str [97],.sl 0 [] .nil],[.int .i64 1,.int .i64 0,.str [],.sl 0 [] .nil],[.int .i64 1,.int .i64 0,.str [],.sl 0 [] .nil]] .none]] .none,.sl 0 [] .nil,.sl 0 [] .nil,.sl 1 [[.sl 1 [[.int .i64 0]] .tight]] .tight],.agg [.int .u64 1,.int .u64 1]] (.tup [.sl 1 [[.int .i64 0]] .none,.agg [.int .u64 1,.int .u64 2],.int .i64 0]):=Pure.closedA kx (K:=KU1) XU1_ok 2000 60 (by kernel_rfl)
abbrev Vr:List AV:=[.int .i64 1,.int .i64 0,.str [],.sl 0 [] .nil]
abbrev rowC0:List AV:=[.int .i64 1,.int .i64 0,.str [],.sl 0 [] .nil]
theorem qlm:Pure Tryz.prog GG 54 [.sl 4 [Vr,Vr] .none,.int .i64 32] (.fn 87 [] [.rptr [.sl 4 [Vr,Vr] .none],.rptr [.int .i64 32]]):=by
 refine Pure.kO o0 true qe Tryz.func54 rfl (by kernel_rfl) ?_;simp[-getElem?_pos];have e:frz [Blk.cells [AV.sl 4 [Vr,Vr] Tok.none],Blk.cells [AV.int IntKind.i64 32]] 8 (AV.fn 87 [] [AV.ptr 0 0,AV.ptr 1 0])=.fn 87 [] [.rptr [.sl 4 [Vr,Vr] .none],.rptr [.int .i64 32]]:=by
  simp[frz,qC,qp]
 rw[e];exact⟨by simp[qC,qp],Leq.refl _⟩
def MemJ (d:List Unit)(env:Env)(U:St):Prop :=
 env 1=.sl 1 [[.int .i64 0]] .none/\env 12=.sl 1 [[.int .i64 0]] .none/\env 13=.int .i64 1/\env 14=.int .i64 d.length/\env 2=.ptr 0 0/\env 4=.ptr 1 0 /\
  U.H=[.cells [.str [97]],.cells [.int .i64 0,.int .i64 0,.str [],.sl 0 [] .nil]]/\(d=[]->env 5=.sl 0 [] .nil/\U.T=[])/\(d≠[]->env 5=.sl 4 [Vr,Vr] (.chain 0 2)/\U.T=[some 2])
theorem qha:Pure Tryz.prog GG 26 [.str [97],.sl 1 [[.int .i64 0]] .none] (.agg [.int .i64 23,.int .i64 0,.str [],.sl 4 [[.int .i64 2,.int .i64 0,.str [97],.sl 0 [] .nil],[.int .i64 1,.int .i64 0,.str [],.sl 0 [] .nil],[.int .i64 1,.int .i64 0,.str [],.sl 0 [] .nil]] .none]):=by
 refine Pure.kO o0 true qe Tryz.func26 rfl (by kernel_rfl) ?_;simp[-getElem?_pos];have w1:IntKind.i64.wrap 1=1:=wr (by omega) (by omega);have w0:IntKind.i64.wrap 0=0:=wr (by omega) (by omega);refine qJ.list [()] MemJ ?_ ?_ ?_
 . simp[MemJ]
 . rintro d v r env ⟨H,T⟩ hd _ hlt ⟨h1,h12,h13,h14,h2,h4,hH,hn,_⟩;obtain rfl:d=[]:=by cases d with
    | nil=>rfl
    | cons a d=>simp at hlt
   obtain⟨h5,hT⟩:=hn rfl;simp only at hH hT;subst hH hT;simp[-getElem?_pos,h1,h12,h13,h14,h5,w0,w1,zl,zP,qA,qN,zI];simp[MemJ,h1,h12,h13,h2,h4,w1]
 . rintro env ⟨H,T⟩ ⟨h1,h12,h13,h14,h2,h4,hH,_,hn⟩;obtain⟨h5,hT⟩:=hn (by simp);simp only at hH hT;subst hH hT;simp[-getElem?_pos,h1,h12,h13,h14,h2,h4,h5,w0,w1,zl,zP,qA];refine qc.pure qlm (by simp[plain,pl2,pl1,qC,qp]) (by simp[plain,pl2,pl1]) ?_;simp[-getElem?_pos];refine qat (J3 _) (fun _=>True) [.sl 4 [Vr,Vr] .none] (fun i U=>∃ x y,U.T=[some 2]++x/\U.H=[.cells [.str [97]],.cells [.int .i64 0,.int .i64 0,.str [],.sl 0 [] .nil],.cells (if i=0 then rowC0 else y)]++(if i=0 then [] else [.cells y])/\(i=0->x=[])/\(i≠0->y=[.int .i64 23,.int .i64 0,.str [],.sl 4 [[.int .i64 2,.int .i64 0,.str [97],.sl 0 [] .nil],Vr,Vr] (.chain 1 2)])) (by simp[ev]) (fw190 GG [Vr,Vr] .none (by simp)) (fun _ _ _=>trivial) ?_ ?_ ?_
   . exact⟨[],[],rfl,rfl,fun _=>rfl,fun h=>absurd rfl h⟩
   . rintro i v ⟨H,T⟩ hi ⟨x,y,hT,hH,hx,hy⟩;obtain⟨rfl,rfl⟩:i=0/\v=.sl 4 [Vr,Vr] .none:=by
      cases i with
      | zero=>simp at hi;exact⟨rfl,hi.symm⟩
      | succ i=>simp at hi
     obtain rfl:=hx rfl;simp only[if_true,qpB]at hT hH;subst hT hH;simp[-getElem?_pos,zl,zP,qA,qN,zI,h2,h4]
   . rintro⟨H,T⟩ ⟨x,y,hT,hH,hx,hy⟩;obtain rfl:=hy (by simp);simp at hT hH;subst hT hH;simp[-getElem?_pos,h2,h4];simp[frz,qC,qp,zj]
def KC (g:FuncId):Bool:=Nat.beq g 9||Nat.beq g 21||Nat.beq g 23||Nat.beq g 26
def XC (g:FuncId)(args:List AV):Option AV :=
 qK (Nat.beq g 21&&yr args [.agg [.sl 4 [[.str [97],.int .i64 1,.int .i64 2,.int .i64 0]] .tight,.sl 0 [] .nil,.sl 0 [] .nil,.sl 0 [] .nil,.sl 1 [[.sl 1 [[.int .i64 0]] .tight]] .tight]]) (some (.int .i64 0)) <|
 qK (Nat.beq g 21&&yr args [.agg [.sl 4 [[.str [97],.int .i64 1,.int .i64 2,.int .i64 0]] .tight,.sl 4 [[.int .i64 23,.int .i64 0,.str [],.sl 4 [[.int .i64 2,.int .i64 0,.str [97],.sl 0 [] .nil],[.int .i64 1,.int .i64 0,.str [],.sl 0 [] .nil],[.int .i64 1,.int .i64 0,.str [],.sl 0 [] .nil]] .none]] .none,.sl 0 [] .nil,.sl 0 [] .nil,.sl 1 [[.sl 1 [[.int .i64 0]] .tight]] .tight]]) (some (.int .i64 0)) <|
 qK (Nat.beq g 23&&yr args [.agg [.sl 4 [[.str [97],.int .i64 1,.int .i64 2,.int .i64 0]] .tight,.sl 0 [] .nil,.sl 0 [] .nil,.sl 0 [] .nil,.sl 1 [[.sl 1 [[.int .i64 0]] .tight]] .tight]]) (some (.tup [.sl 4 [] .none,.int .i64 0])) <|
 qK (Nat.beq g 23&&yr args [.agg [.sl 4 [[.str [97],.int .i64 1,.int .i64 2,.int .i64 0]] .tight,.sl 4 [[.int .i64 23,.int .i64 0,.str [],.sl 4 [[.int .i64 2,.int .i64 0,.str [97],.sl 0 [] .nil],[.int .i64 1,.int .i64 0,.str [],.sl 0 [] .nil],[.int .i64 1,.int .i64 0,.str [],.sl 0 [] .nil]] .none]] .none,.sl 0 [] .nil,.sl 0 [] .nil,.sl 1 [[.sl 1 [[.int .i64 0]] .tight]] .tight]]) (some (.tup [.sl 4 [[.int .i64 23,.int .i64 0,.str [],.sl 4 [[.int .i64 2,.int .i64 0,.str [97],.sl 4 [] .none],[.int .i64 1,.int .i64 0,.str [],.sl 4 [] .none],[.int .i64 1,.int .i64 0,.str [],.sl 4 [] .none]] .none]] .none,.int .i64 0])) <|
 qK (Nat.beq g 9&&yr args [.agg [.sl 4 [[.str [97],.int .i64 1,.int .i64 2,.int .i64 0]] .tight,.sl 0 [] .nil,.sl 0 [] .nil,.sl 0 [] .nil,.sl 1 [[.sl 1 [[.int .i64 0]] .tight]] .tight],.agg [.int .u64 1,.int .u64 0]]) (some (.tup [.sl 1 [[.int .i64 1]] .none,.agg [.int .u64 1,.int .u64 1],.int .i64 0])) <|
 qK (Nat.beq g 9&&yr args [.agg [.sl 4 [[.str [97],.int .i64 1,.int .i64 2,.int .i64 0]] .tight,.sl 4 [[.int .i64 23,.int .i64 0,.str [],.sl 4 [[.int .i64 2,.int .i64 0,.str [97],.sl 0 [] .nil],[.int .i64 1,.int .i64 0,.str [],.sl 0 [] .nil],[.int .i64 1,.int .i64 0,.str [],.sl 0 [] .nil]] .none]] .none,.sl 0 [] .nil,.sl 0 [] .nil,.sl 1 [[.sl 1 [[.int .i64 0]] .tight]] .tight],.agg [.int .u64 1,.int .u64 1]]) (some (.tup [.sl 1 [[.int .i64 0]] .none,.agg [.int .u64 1,.int .u64 2],.int .i64 0])) <|
 qK (Nat.beq g 26&&yr args [.str [97],.sl 1 [[.int .i64 0]] .none]) (some (.agg [.int .i64 23,.int .i64 0,.str [],.sl 4 [[.int .i64 2,.int .i64 0,.str [97],.sl 0 [] .nil],[.int .i64 1,.int .i64 0,.str [],.sl 0 [] .nil],[.int .i64 1,.int .i64 0,.str [],.sl 0 [] .nil]] .none])) <|
 none
theorem XC_ok:qfF Tryz.prog GG XC:=by
 intro g args r h;unfold XC at h;rcases qv wP h with h|h
 . exact h
 rcases qv Qa h with h|h
 . exact h
 rcases qv qgs h with h|h
 . exact h
 rcases qv qgr h with h|h
 . exact h
 rcases qv qnm h with h|h
 . exact h
 rcases qv qnl h with h|h
 . exact h
 rcases qv qha h with h|h
 . exact h
 cases h
theorem startF:Pure Tryz.prog GG 7 [.agg [.sl 4 [[.str [97],.int .i64 1,.int .i64 2,.int .i64 0]] .tight,.sl 0 [] .nil,.sl 0 [] .nil,.sl 0 [] .nil,.sl 1 [[.sl 1 [[.int .i64 0]] .tight]] .tight]] (.agg [.sl 1 [[.sl 0 [] .nil]] .none]):=Pure.closedA FW_ok (K:=K0) jJ 2000 60 (by kernel_rfl)
theorem cyc0F:Pure Tryz.prog GG 8 [.agg [.sl 4 [[.str [97],.int .i64 1,.int .i64 2,.int .i64 0]] .tight,.sl 0 [] .nil,.sl 0 [] .nil,.sl 0 [] .nil,.sl 1 [[.sl 1 [[.int .i64 0]] .tight]] .tight],.agg [.sl 1 [[.sl 0 [] .nil]] .none],.agg [.int .u64 1,.int .u64 0]] (.tup [.sl 1 [[.int .i64 1]] .none,.agg [.sl 1 [[.sl 1 [[.int .i64 1]] .none]] .none],.agg [.int .u64 1,.int .u64 1],.int .i64 0]):=Pure.closedA FC_ok (K:=KC) XC_ok 2000 60 (by kernel_rfl)
theorem cyc1F:Pure Tryz.prog GG 8 [.agg [.sl 4 [[.str [97],.int .i64 1,.int .i64 2,.int .i64 0]] .tight,.sl 0 [] .nil,.sl 0 [] .nil,.sl 0 [] .nil,.sl 1 [[.sl 1 [[.int .i64 0]] .tight]] .tight],.agg [.sl 1 [[.sl 1 [[.int .i64 1]] .none]] .none],.agg [.int .u64 1,.int .u64 1]] (.tup [.sl 1 [[.int .i64 0]] .none,.agg [.sl 1 [[.sl 1 [[.int .i64 1],[.int .i64 0]] .none]] .none],.agg [.int .u64 1,.int .u64 2],.int .i64 0]):=Pure.closedA FC_ok (K:=KC) XC_ok 2000 60 (by kernel_rfl)
def KW (g:FuncId):Bool:=Nat.beq g 7||Nat.beq g 8||Nat.beq g 21
def XW (g:FuncId)(args:List AV):Option AV :=
 qK (Nat.beq g 21&&yr args [.agg [.sl 4 [[.str [97],.int .i64 1,.int .i64 2,.int .i64 0]] .tight,.sl 0 [] .nil,.sl 0 [] .nil,.sl 0 [] .nil,.sl 1 [[.sl 1 [[.int .i64 0]] .tight]] .tight]]) (some (.int .i64 0)) <|
 qK (Nat.beq g 7&&yr args [.agg [.sl 4 [[.str [97],.int .i64 1,.int .i64 2,.int .i64 0]] .tight,.sl 0 [] .nil,.sl 0 [] .nil,.sl 0 [] .nil,.sl 1 [[.sl 1 [[.int .i64 0]] .tight]] .tight]]) (some (.agg [.sl 1 [[.sl 0 [] .nil]] .none])) <|
 qK (Nat.beq g 8&&yr args [.agg [.sl 4 [[.str [97],.int .i64 1,.int .i64 2,.int .i64 0]] .tight,.sl 0 [] .nil,.sl 0 [] .nil,.sl 0 [] .nil,.sl 1 [[.sl 1 [[.int .i64 0]] .tight]] .tight],.agg [.sl 1 [[.sl 0 [] .nil]] .none],.agg [.int .u64 1,.int .u64 0]]) (some (.tup [.sl 1 [[.int .i64 1]] .none,.agg [.sl 1 [[.sl 1 [[.int .i64 1]] .none]] .none],.agg [.int .u64 1,.int .u64 1],.int .i64 0])) <|
 qK (Nat.beq g 8&&yr args [.agg [.sl 4 [[.str [97],.int .i64 1,.int .i64 2,.int .i64 0]] .tight,.sl 0 [] .nil,.sl 0 [] .nil,.sl 0 [] .nil,.sl 1 [[.sl 1 [[.int .i64 0]] .tight]] .tight],.agg [.sl 1 [[.sl 1 [[.int .i64 1]] .none]] .none],.agg [.int .u64 1,.int .u64 1]]) (some (.tup [.sl 1 [[.int .i64 0]] .none,.agg [.sl 1 [[.sl 1 [[.int .i64 1],[.int .i64 0]] .none]] .none],.agg [.int .u64 1,.int .u64 2],.int .i64 0])) <|
 none
theorem XW_ok:qfF Tryz.prog GG XW:=by
 intro g args r h;unfold XW at h;rcases qv wP h with h|h
 . exact h
 rcases qv startF h with h|h
 . exact h
 rcases qv cyc0F h with h|h
 . exact h
 rcases qv cyc1F h with h|h
 . exact h
 cases h
theorem qiA:Pure Tryz.prog GG 6 [] (.bool true):=Pure.closedA FW_ok (K:=KW) XW_ok 2000 60 (by kernel_rfl)
def qdb:List (Nat×Sch×List Nat):=[(12,.step 0 [12,11,1] (.step 1 [12,11] (.step 2 [12,11] (.step 3 [12,11,10,7,6,4] (.step 4 [12,11,10,7,6] (.step 5 [12,11,10,7,6] (.step 6 [12,11,10,7] (.step 7 [12,11,10] (.step 8 [12,11,10,9] (.step 9 [12,11,10] (.step 10 [12,11] (.step 11 [12] (.step 12 [] (.done))))))))))))),[])]
def rng (j:Nat):List Int:=(List.range j).map fun n:Nat=>(n:Int)
theorem qjG (j:Nat):rng (j+1)=rng j++[(j:Int)]:=by simp[rng,qp8]
theorem qgt (j:Nat):(rng j).length=j:=by simp[rng]
theorem qnD (p:Problem)(h:VM p)(hsm:yN p=true)(hvp:qr p=0)(h0:p.vars≠[])(r:Rng):Pure Tryz.prog GG 3 [.agg (qL p),.agg (jV r)] (.bool true):=by
 refine Pure.kO ⟨false,qdb,[],[]⟩ true qe Tryz.func3 rfl (by kernel_rfl) ?_;have hs:=qbM p h;rw[hsm]at hs;have ha:=qiA;simp only[yN,qo0,decide_eq_true_eq,qpa]at hsm;obtain⟨⟨⟨⟨⟨⟨hvl,hdl⟩,hgl⟩,he1⟩,he2⟩,hwl⟩,hbl⟩:=hsm;have hq:=h.q hvl he1 he2;have hval:=Qt p hq (h.flat hgl);rw[hvp]at hval;have hsf:=(wq he2).1;have hb18:yp p.vars (qy p)<=18:=by
  have:yp p.vars (qy p)<=7:=by simpa[hvp] using hbl
  omega
 have hfl:(NG p).flatten.length<=12:=qp4 (qbi hvp) (by omega);have hws:∀ d∈p.dists,d.weights.length<=1000:=fun d hd=>by have:=hwl d hd;omega
 have h33:=qiU p hq (by omega) (fun _=>hfl) hb18 (by omega) (by omega) hws r;have h26:=fun (B:Nat) (vs:List AV) (H:List Blk) (T:List (Option Nat))=>qid p hq hvp h0 (by omega) hfl hb18 (by omega) (by omega) hws r (B:=B) (vs:=vs) (H:=H) T
 have h19:=qcX p (by omega) h0;have hw:∀ v∈p.vars,0<=v.width/\v.width<=8:=fun v hv=>by have:=zk (jA hvp v hv);omega
 simp only[qL]at hs hval;simp[-getElem?_pos,jV];refine qc.call (G:=z5 GG) hs (by simp) ?_;simp[-getElem?_pos,unA];refine qc.call (G:=z5 GG) hval (by simp) ?_;simp[-getElem?_pos,unA];refine qc.acall (h19 _ _) ?_;rintro v ⟨H1,T1⟩ ⟨hk1,B,rfl,hB1,b1⟩;dsimp only at hk1 b1;obtain⟨n,hn⟩:∃ n,n=p.vars.length:=⟨_,rfl⟩;rw[<- hn]at b1;have bx:H1[0]?=some _:=hk1.2 0 _ rfl (by simp);have br:H1[1]?=some _:=hk1.2 1 _ rfl (by simp);have hb1l:=(qoX.1 b1).1;simp only[qpd,qpy]at hB1;simp[-getElem?_pos,bx,qa bx,<- hn];obtain⟨HH,hHH⟩:∃ HH,HH=H1++[.cells [.ms B 0 n 1]]:=⟨_,rfl⟩;have hHl:HH.length=H1.length+1:=by rw[hHH];simp
 have cB:∀ y,(HH.set B y)[B]?=some y:=fun y=>qo2 (by omega)
 have cx:∀ y,(HH.set B y)[0]?=some (.cells (qL p)):=fun y=>by rw[qoY (by omega),hHH];exact qa bx _
 have cr:∀ y,(HH.set B y)[1]?=some (.cells (jV r)):=fun y=>by rw[qoY (by omega),hHH];exact qa br _
 have c5:∀ y,(HH.set B y)[H1.length]?=some (.cells [.ms B 0 n 1]):=fun y=>by rw[qoY (by omega),hHH];exact lk0
 have hset0:HH=HH.set B (.cells (List.replicate n (.sl 0 [] .nil))):=by
  apply qpL;intro j;by_cases hj:B=j
  . subst hj;rw[cB,hHH];exact qa b1 _
  . rw[qoY hj]
 simp only[qL]at cx;simp only[jV]at cr;refine qJ.listR p.vars (fun dn ev U=>ev 2=.ptr 0 0/\ev 3=.ptr 1 0/\ev 5=.ptr H1.length 0/\ev 6=.int .i64 dn.length /\
  ∃ (vs:List AV) (T:List (Option Nat)),U=⟨HH.set B (.cells vs),T⟩/\vs.length=n/\(∀ (i:Nat) (l:List Int),i<dn.length->(kQ p)[i]?=some l->∃ t,vs[i]?=some (Y8 1 qu t l))/\∀ i,dn.length<=i->i<n->vs[i]?=some (.sl 0 [] .nil)) ?_ ?_ ?_
 . refine⟨by simp,by simp,by simp,by simp,List.replicate n (.sl 0 [] .nil),T1,?_,by simp,fun i l hi=>absurd hi (by simp),fun i _ hi=>by simp[hi]⟩;rw[<- hset0,hHH]
 . rintro dn v rest ev U R hR hdd hx hlt ⟨e2,e3,e5,e6,vs,T,rfl,hvl2,hdone,htodo⟩;rw[<- hn]at hlt;have hlt':(dn.length:Int)<n:=(by omega);have hlt1:dn.length+1<=n:=(by omega);have hwl1:=wr (n:=(dn.length:Int)+1) (by omega) (by omega);have hvw:=hw v (qoZ hx);have hvwn:¬ v.width<0:=(by omega);have hs1:=wb hvw.1 (by omega);obtain⟨W,hW⟩:∃ W,W=2 ^ v.width.toNat:=⟨_,rfl⟩;have hW8:W<=2 ^ 8:=(by rw[hW];exact qpr (by omega) (by omega));rw[<- hW]at hs1;have hwu:IntKind.u64.wrap v.width=v.width:=wru (by omega) (by omega);have hfc:(kQ p)[dn.length]?=some (if v.mode=2 then rng W else []):=by
    unfold kQ rng;rw[qpj,hx,hW];rfl
   have h0v:=htodo dn.length (qo7 _) hlt;simp[-getElem?_pos,e2,e3,e5,e6,cx,<- hn,hlt,hlt'];refine qJ.gen (fun m ev U=>ev 2=.ptr 0 0/\ev 3=.ptr 1 0/\ev 5=.ptr H1.length 0/\ev 6=.int .i64 dn.length /\
    ∃ j,m=W-j/\j<=W/\(v.mode≠2->j=0)/\ev 7=.int .i64 j/\U=⟨HH.set B (.cells (vs.set dn.length (Y8 1 qu T.length (rng j)))),Z8 T (rng j)⟩) W ?_ ?_
   . refine⟨by simp[e2],by simp[e3],by simp[e5],by simp[e6],0,rfl,by omega,fun _=>rfl,by simp,?_⟩;have:vs.set dn.length (Y8 1 qu T.length (rng 0))=vs:=by
      apply qpL;intro k;by_cases hk:dn.length=k
      . subst hk;rw[qo2 (by omega),h0v];rfl
      . rw[qoY hk]
     rw[this];rfl
   . rintro m ev U R2 hR2 ⟨e2,e3,e5,e6,j,rfl,hjW,hjm,e7,rfl⟩;have hwj:=wr (n:=(j:Int)+1) (by omega) (by omega);by_cases hgo:v.mode=2/\j<W
     . obtain⟨hm,hj⟩:=hgo;have hj':(j:Int)<W:=(by omega);have happ:=Y2 (D:=Dof Tryz.prog) (H:=HH.set B (.cells (vs.set dn.length (Y8 1 qu T.length (rng j))))) (T:=T) (s:=rng j) (m:=[(j:Int)]) (en:=qu) (sz:=1) (tok:=.tight) (ty:=41) (e:=3) D41 rfl D3 rfl (by omega) rfl (by decide) (by simp[qgt];omega) 1 (.inl rfl);rw[<- qjG]at happ;have hV:=WD (sz:=1) (en:=qu) (t:=T.length) (s:=rng (j+1)) (fun e=>by have:=qgt (j+1);rw[e]at this;simp at this);obtain⟨L,hL⟩:∃ L,L=(rng (j+1)).map qu:=⟨_,rfl⟩;rw[<- hL]at hV;rw[hV]at happ;simp only[qo9,qpv,qu]at happ;have hdr:(vs.set dn.length (Y8 1 qu T.length (rng j))).drop dn.length=Y8 1 qu T.length (rng j)::vs.drop (dn.length+1):=by
        rw[qph (by simp;omega)];simp[List.drop_set]
       simp[-getElem?_pos,e2,e3,e5,e6,e7,cx,hx,qx,hm,yA,hwu,hvwn,IntKind.bits,hs1,hj'];rw[qI rfl];simp[-getElem?_pos,qP,e2,e3,e5,e6,e7,c5,cB,hdr,happ,qm,qz,hlt',hlt1,hvl2,hwj,List.set_set];exact hR2 (W-(j+1)) _ _ (by omega) ⟨by simp[e2],by simp[e3],by simp[e5],by simp[e6],j+1,rfl,by omega,fun h=>absurd hm h,by simp,by rw[hV]⟩
     . have hrow:rng j=if v.mode=2 then rng W else []:=by
        by_cases hm:v.mode=2
        . have:j=W:=by
           have:¬ j<W:=fun e=>hgo ⟨hm,e⟩
           omega
          rw[if_pos hm,this]
        . rw[if_neg hm,hjm hm];rfl
       have fin:∀ ev',ev' 2=.ptr 0 0->ev' 3=.ptr 1 0->ev' 5=.ptr H1.length 0->ev' 6=.int .i64 ((dn.length:Int)+1)->R ev' ⟨HH.set B (.cells (vs.set dn.length (Y8 1 qu T.length (rng j)))),Z8 T (rng j)⟩:=fun ev' a2 a3 a5 a6=>by
        refine hR _ _ ⟨a2,a3,a5,by rw[a6];simp,_,_,rfl,by simp[hvl2],fun i l hi hl=>?_,fun i hi1 hi2=>?_⟩
        . by_cases hid:i=dn.length
          . subst hid;rw[hfc]at hl;rw[qo2 (by omega),hrow,Option.some.inj hl];exact⟨_,rfl⟩
          . rw[qoY (Ne.symm hid)];exact hdone i l (by simp at hi;omega) hl
        . simp at hi1;rw[qoY (by omega)];exact htodo i (by omega) hi2
       by_cases hm:v.mode=2
       . have hj':¬ (j:Int)<W:=by
          have:¬ j<W:=fun e=>hgo ⟨hm,e⟩
          omega
         simp[-getElem?_pos,e2,e3,e5,e6,e7,cx,hx,qx,hm,yA,hwu,hvwn,IntKind.bits,hs1,hj',hwl1];exact fin _ (by simp[e2]) (by simp[e3]) (by simp[e5]) (by simp)
       . simp[-getElem?_pos,e2,e3,e5,e6,e7,cx,hx,qx,hm,hwl1];exact fin _ (by simp[e2]) (by simp[e3]) (by simp[e5]) (by simp)
 . rintro ev U ⟨e2,e3,e5,e6,vs,T,rfl,hvl2,hdone,_⟩;rw[<- hn]at e6;have hvs:VsOk vs (kQ p):=⟨by rw[hvl2,hn];simp[kQ],fun i l hl=>hdone i l (by
    have:=(qoX.1 hl).1;simpa[kQ] using this) hl⟩
   have hcall:=h26 B vs _ T (cB _) hvs;rw[<- hn]at hcall;simp only[qL,jV]at hcall;have hHB:B<HH.length:=(by omega);generalize hH2:HH.set B (.cells vs)=H2 at *;have g0:=cx (.cells vs);have g1:=cr (.cells vs);have g5:=c5 (.cells vs);rw[hH2]at g0 g1 g5;simp[-getElem?_pos,e2,e3,e5,e6,g0,g1,g5,<- hn];refine qc.acall hcall ?_;rintro v ⟨H3,T3⟩ ⟨k3,w,x,hr,hx⟩;dsimp only at k3 hr;have m0:=k3.2 _ _ g0 (by simp);have m1:=k3.2 _ _ g1 (by simp);obtain⟨a,rr,er,hqe⟩:∃ a rr er,jB p r=(a,rr,er):=⟨_,_,_,rfl⟩;have hal:=vC (p:=p) (r:=r);unfold slvV at h33;rw[hqe]at hr h33 hal;dsimp only at hr h33 hal;simp only[qL,jV]at h33 hr;rcases hr with ⟨her,rfl⟩|⟨her,rfl,b,hrow⟩
   . rcases hx with rfl|⟨B2,rfl⟩
     all_goals
      simp[-getElem?_pos,e2,e3,e5,e6,m0,m1,qa m0,qa m1];refine qc.call (G:=z5 GG) h33 (by simp) ?_;simp[-getElem?_pos,her];refine qc.call (G:=z5 GG) ha (by simp) ?_;simp[-getElem?_pos,ki]
   . have hal':=hal her;have hfa:Fits a:=by
      show a.length<_;rw[hal'];omega
     have look_row:qfD b H3 w a->∀ u,qC (frz (H3++u) 8 w)=true/\Leq (frz (H3++u) 8 w) (.sl 1 (a.map qu) .none)/\(qC w=true->Leq w (.sl 1 (a.map qu) .none)):=fun h u=>by
      refine qfD.frz (b:=b) ?_ 7;rcases h with h|⟨q1,q2,q3⟩
      . exact .inl h
      . exact .inr ⟨q1,q2,qa q3 u⟩
     rcases hx with rfl|⟨B2,rfl⟩
     all_goals
      simp[-getElem?_pos,e2,e3,e5,e6,m0,m1,qa m0,qa m1];refine qc.call (G:=z5 GG) h33 (by simp) ?_;simp[-getElem?_pos,her];refine qc.lent (G:=z5 GG) (qac a a hfa hfa) (by rfl) (by
       simp only[qo9,qpv,zn];refine⟨(look_row hrow _).2.1,?_,trivial⟩;rw[qG (by simp)];exact Leq.refl _) ?_
      simp[-getElem?_pos];have heq:YL (Dof Tryz.prog) 30 [AV.int .u64 rr.1,AV.int .u64 rr.2] [AV.int .u64 rr.1,AV.int .u64 rr.2]=some true:=by
       simp[YL,Jd,yj,qR,zO,qp8,zX,yq]
      simp[-getElem?_pos,heq];refine qc.call (G:=z5 GG) ha (by simp) ?_;simp[-getElem?_pos,ki]
def ZQ (H:List Blk)(r:AV)(U':St):Prop:=KpL [] H U'.H/\∃ tok,r=.agg [.sl 1 [] tok]
theorem qig (p:Problem)(h0:p.vars=[])(tok:Tok)(H:List Blk)(T:List (Option Nat)) :
 qg Tryz.prog GG 24 [.agg (qL p),.agg [.sl 1 [] tok]] ⟨H,T⟩ (ZQ H):=by
 refine qg.kO ⟨false,qgE,[],[]⟩ qe Tryz.func24 rfl (by kernel_rfl) ?_;have hst:=qcW p h0;simp[-getElem?_pos];refine qc.acall (hst _ _) ?_;rintro v ⟨H1,T1⟩ ⟨hk1,tok1,rfl⟩;dsimp only at hk1;have bx:=hk1.2 _ _ lk0 (by simp);have bh:=hk1.2 _ _ lk1 (by simp);have bz:=hk1.2 _ _ lk2 (by simp);have hkH:KpL [] H H1:=KpL.app.trans hk1;have bzl:=(qoX.1 bz).1;simp[-getElem?_pos,bx,bh,qa bx,qa bh];refine qJ.gen (fun m ev U=>ev 4=.ptr (H.length+2) 0/\ev 5=.ptr H1.length 0/\ev 12=.int .i64 0/\ev 13=.int .i64 0/\∃ T',U=⟨H1++[.cells [.sl 1 [] tok1]],T'⟩) 0 ?_ ?_
 . exact⟨by simp,by simp,by simp,by simp,_,rfl⟩
 rintro m ev U R hR ⟨e4,e5,e12,e13,T',rfl⟩;have hg:∀ y,((H1++[Blk.cells [.sl 1 [] tok1]]).set (H.length+2) y)[H.length+2]?=some y:=fun y=>qo2 (by simp;omega)
 simp[-getElem?_pos,e4,e5,e12,e13,qa bz,hg];refine⟨(hkH.trans KpL.app).setF (by omega),tok1,rfl⟩
theorem qfl (p:Problem)(h:VQ p)(hvp:qr p=0)(h0:p.vars=[])(hfl:(NG p).flatten.length<=12)(hb:yp p.vars (qy p)<=18)(hd:p.dists.length<=10000)(hs5:p.soft.length<=10000)(hws:∀ d∈p.dists,d.weights.length<=1000)(r:Rng)(tok:Tok)(H:List Blk)(T:List (Option Nat)) :
 qg Tryz.prog GG 8 [.agg (qL p),.agg [.sl 1 [] tok],.agg (jV r)] ⟨H,T⟩ (fun v U'=>KpL [] H U'.H/\∃ w sz tk,
  (((jB p r).2.2≠0/\v=.tup [.sl 0 [] .nil,.agg [.sl sz [] tk],.agg [.int .u64 0,.int .u64 0],.int .i64 (jB p r).2.2]) \/
    ((jB p r).2.2=0/\v=.tup [w,.agg [.sl sz [] tk],.agg (jV (jB p r).2.1),.int .i64 0]/\∃ b,qfD b U'.H w (jB p r).1))):=by
 refine qg.kO ⟨false,qgF,[],[]⟩ qe Tryz.func8 rfl (by kernel_rfl) ?_;have hval:=jZ p h;have hfc:kQ p=[]:=by unfold kQ;rw[h0];rfl
 have hfit:=qmo p [] (by rw[h0];simp) (by simp) (by simp) (by rw[h0];simp);have hff:=qaR p;rw[hfc]at hff;rw[hff]at hfit;rw[hvp]at hval;have hrul:=Vl p h (by rw[h0];simp) hb hd hs5;have hcop:=qig p h0 tok;have hfz:∀ H':List Blk,Leq (frz H' 8 (.agg [.sl 1 [] tok])) (.agg (qa3 [])):=fun H'=>by
  have e:frz H' 8 (.agg [.sl 1 [] tok])=.agg [.sl 1 [] tok]\/frz H' 8 (.agg [.sl 1 [] tok])=.agg [.sl 1 [] .none]:=by
   cases tok with
   | chain t k=>right;simp[frz,qC,qp]
   | none=>left;exact qG (by simp)
   | nil=>left;exact qG (by simp)
   | tight=>left;exact qG (by simp)
  rcases e with e|e<;>rw[e]<;>simp[Leq,zn]
 simp[-getElem?_pos,jV];refine qc.call hval (by simp) ?_;simp[-getElem?_pos];refine qc.lent hfit (by rfl) (by
  simp only[qo9,qpv,zn];refine⟨?_,hfz _,trivial⟩;rw[qG (by simp)];simp[Leq.refl]) ?_
 simp[-getElem?_pos];refine qc.call hrul (by simp) ?_;by_cases he:(zH p).2=0
 case neg=>
  have hsr:jB p r=([],(0,0),(zH p).2):=if_pos he;rw[hsr];simp[-getElem?_pos,he];refine qc.call (qdW _) (by simp) ?_;simp[-getElem?_pos];exact KpL.app
 simp[-getElem?_pos,he];refine qc.acall (hcop _ _) ?_;rintro v ⟨H1,T1⟩ ⟨hk1,tok1,rfl⟩;dsimp only at hk1;have bx:=hk1.2 _ _ lk0 (by simp);have bh:=hk1.2 _ _ lk1 (by simp);have br:=hk1.2 _ _ lk2 (by simp);have b3:=hk1.2 _ _ lk3 (by simp);have b4:=hk1.2 _ _ lk4 (by simp);have hkH:KpL [] H H1:=KpL.app.trans hk1;have hlen1:=hk1.1;simp only[qo3,qpd,qpy]at hlen1;simp[-getElem?_pos,qa bx,bx,h0];refine qJ.gen (fun m ev U=>ev 3=.ptr H.length 0/\ev 5=.ptr (H.length+2) 0/\ev 7=.ptr (H.length+3) 0/\ev 8=.ptr (H.length+4) 0/\ev 10=.fn 20 [] []/\ev 14=.ptr H1.length 0/\ev 15=.ptr (H1.length+1) 0/\ev 66=.int .i64 0/\ev 67=.int .i64 0 /\
  U.H=H1++[.cells [.sl 1 [] tok1],.cells (qL p)]) 0 ?_ ?_
 . exact⟨by simp,by simp,by simp,by simp,by simp,by simp,by simp,by simp,by simp,by simp[h0]⟩
 rintro m ev ⟨H2,T2⟩ R hR ⟨e3,e5,e7,e8,e10,e14,e15,e66,e67,rfl⟩;have k2:KpL [] H1 (H1++[.cells [.sl 1 [] tok1],.cells (qL p)]):=KpL.app;have c14:(H1++[.cells [.sl 1 [] tok1],.cells (qL p)])[H1.length]?=some (.cells [.sl 1 [] tok1]):=lk0;have c15:(H1++[.cells [.sl 1 [] tok1],.cells (qL p)])[H1.length+1]?=some (.cells (qL p)):=lk1;generalize (H1++[.cells [.sl 1 [] tok1],.cells (qL p)])=H2 at *;have bx2:=k2.2 _ _ bx (by simp);have br2:=k2.2 _ _ br (by simp);have b32:=k2.2 _ _ b3 (by simp);have b42:=k2.2 _ _ b4 (by simp);have hkH2:=hkH.trans k2;have hrs:=Vk p h (by rw[h0];simp) (fun _=>hfl) hb hd hs5 hws r H2 T2;simp only[qL]at hrs c15;simp only[jV]at hrs;simp[-getElem?_pos,e3,e5,e7,e8,e10,e14,e15,e66,e67,c15,br2];refine qc.acall hrs ?_;rintro v ⟨H3,T3⟩ ⟨k3,w,b,rfl,hrow,hbge⟩;dsimp only at k3 hrow;have br3:=k3.2 _ _ br2 (by simp);have b33:=k3.2 _ _ b32 (by simp);have b43:=k3.2 _ _ b42 (by simp);have c143:=k3.2 _ _ c14 (by simp);have bx3:=k3.2 _ _ bx2 (by simp);have hkH3:=hkH2.trans k3;have br3l:=(qoX.1 br3).1;have b33l:=(qoX.1 b33).1;have b43l:=(qoX.1 b43).1;have c14l:=(qoX.1 c14).1;have hqlen:=vC (p:=p) (r:=r);obtain⟨a,rr,er,hqe⟩:∃ a rr er,jB p r=(a,rr,er):=⟨_,_,_,rfl⟩;rw[hqe]at hrow hqlen ⊢;dsimp only at hrow hqlen ⊢;by_cases her:er=0
 case neg=>
  simp[-getElem?_pos,e3,e5,e7,e8,e10,e14,e15,br3,br3l,jV,her];refine qc.call (qdW _) (by simp) ?_;simp[-getElem?_pos,e3,e5,e7,e8,e10,e14,e15,br3,br3l,jV,her,qqM,b33,b43,b33l,b43l];exact ((hkH3.setF (by omega)).setF (by omega)).setF (by omega)
 subst her;have hal:=hqlen rfl;rw[h0]at hal;have ha0:a=[]:=qpf hal;subst ha0;rcases hrow with ⟨_,sz,tk,rfl⟩|⟨hx,_⟩
 case inr=>exact absurd rfl hx
 have hne:∀ k,k≠H.length+2->∀ y,(H3.set (H.length+2) y)[k]?=H3[k]? := fun k hk y=>qoY (Ne.symm hk)
 have dx:∀ y,(H3.set (H.length+2) y)[H.length]?=_:=fun y=>(hne _ (by omega) y).trans bx3
 simp[-getElem?_pos,e3,e5,e7,e8,e10,e14,e15,br3,br3l,jV,dx,h0];refine qJ.gen (fun m ev U=>ev 5=.ptr (H.length+2) 0/\ev 7=.ptr (H.length+3) 0/\ev 8=.ptr (H.length+4) 0/\ev 14=.ptr H1.length 0/\ev 21=.sl sz [] tk/\ev 128=.int .i64 0/\ev 129=.int .i64 0 /\
  KpL [] H U.H/\U.H[H.length+2]?=some (.cells [.int .u64 rr.1,.int .u64 rr.2])/\U.H[H.length+3]?=some (.cells [.sl 0 [] .nil])/\U.H[H.length+4]?=some (.cells [.int .u64 0,.int .u64 0])/\U.H[H1.length]?=some (.cells [.sl 1 [] tok1])) 0 ?_ ?_
 . exact⟨by simp[e5],by simp[e7],by simp[e8],by simp[e14],by simp,by simp,by simp,hkH3.setF (by omega),qo2 br3l,(hne _ (by omega) _).trans b33,(hne _ (by omega) _).trans b43,(hne _ (by omega) _).trans c143⟩
 rintro m ev ⟨H5,T5⟩ R hR ⟨e5,e7,e8,e14,e21,e128,e129,hk5,f2,f3,f4,f14⟩;dsimp only at hk5 f2 f3 f4 f14;have f3l:=(qoX.1 f3).1;have f4l:=(qoX.1 f4).1;simp[-getElem?_pos,e5,e7,e8,e14,e21,e128,e129];rw[qI rfl];have g3:∀ y,(H5.set (H.length+3) y)[H.length+3]?=some y:=fun y=>qo2 f3l
 have g34:∀ y,(H5.set (H.length+3) y)[H.length+4]?=some (.cells [.int .u64 0,.int .u64 0]):=fun y=>by rw[qoY (by omega)];exact f4
 have g4:∀ y z,((H5.set (H.length+3) y).set (H.length+4) z)[H.length+4]?=some z:=fun y z=>qo2 (by simp;omega)
 have g43:∀ y z,((H5.set (H.length+3) y).set (H.length+4) z)[H.length+3]?=some y:=fun y z=>by rw[qoY (by omega)];exact g3 y
 simp[-getElem?_pos,qP,e5,e7,e8,e14,e21,f2,f3,f4,f14,g3,g34,g4,g43];exact⟨(hk5.setF (by omega)).setF (by omega),0,.inl ⟨rfl,sz,tk,rfl⟩⟩
theorem qnC (p:Problem)(h:VM p)(hsm:yN p=true)(hvp:qr p=0)(h0:p.vars=[])(r:Rng):Pure Tryz.prog GG 3 [.agg (qL p),.agg (jV r)] (.bool true):=by
 refine Pure.kO ⟨false,qdb,[],[]⟩ true qe Tryz.func3 rfl (by kernel_rfl) ?_;have hs:=qbM p h;rw[hsm]at hs;have ha:=qiA;simp only[yN,qo0,decide_eq_true_eq,qpa]at hsm;obtain⟨⟨⟨⟨⟨⟨hvl,hdl⟩,hgl⟩,he1⟩,he2⟩,hwl⟩,hbl⟩:=hsm;have hq:=h.q hvl he1 he2;have hval:=Qt p hq (h.flat hgl);rw[hvp]at hval;have hsf:=(wq he2).1;have hb18:yp p.vars (qy p)<=18:=by
  have:yp p.vars (qy p)<=7:=by simpa[hvp] using hbl
  omega
 have hfl:(NG p).flatten.length<=12:=qp4 (qbi hvp) (by omega);have hws:∀ d∈p.dists,d.weights.length<=1000:=fun d hd=>by have:=hwl d hd;omega
 have h33:=qiU p hq (by omega) (fun _=>hfl) hb18 (by omega) (by omega) hws r;have h26:=qfl p hq hvp h0 hfl hb18 (by omega) (by omega) hws r;have h19:=qcW p h0;simp only[qL]at hs hval;simp[-getElem?_pos,jV];refine qc.call (G:=z5 GG) hs (by simp) ?_;simp[-getElem?_pos,unA];refine qc.call (G:=z5 GG) hval (by simp) ?_;simp[-getElem?_pos,unA];refine qc.acall (h19 _ _) ?_;rintro v ⟨H1,T1⟩ ⟨hk1,tok,rfl⟩;dsimp only at hk1;have bx:H1[0]?=some _:=hk1.2 0 _ rfl (by simp);have br:H1[1]?=some _:=hk1.2 1 _ rfl (by simp);simp[-getElem?_pos,bx,qa bx,h0];refine qJ.gen (fun m ev U=>ev 2=.ptr 0 0/\ev 3=.ptr 1 0/\ev 5=.ptr H1.length 0/\ev 6=.int .i64 0/\∃ T',U=⟨H1++[.cells [.sl 1 [] tok]],T'⟩) 0 ?_ ?_
 . exact⟨by simp,by simp,by simp,by simp,_,rfl⟩
 rintro m ev U R hR ⟨e2,e3,e5,e6,T',rfl⟩;have g5:(H1++[Blk.cells [.sl 1 [] tok]])[H1.length]?=some (.cells [.sl 1 [] tok]):=lk0;have g0:=qa bx [Blk.cells [.sl 1 [] tok]];have g1:=qa br [Blk.cells [.sl 1 [] tok]];generalize (H1++[Blk.cells [.sl 1 [] tok]])=H2 at *;have hcall:=h26 tok H2 T';simp only[qL,jV]at hcall;simp[-getElem?_pos,e2,e3,e5,e6,g0,g1,g5,h0];rw[h0]at hcall;refine qc.acall hcall ?_;rintro v ⟨H3,T3⟩ ⟨k3,w,sz,tk,hr⟩;dsimp only at k3 hr;have m0:=k3.2 _ _ g0 (by simp);have m1:=k3.2 _ _ g1 (by simp);obtain⟨a,rr,er,hqe⟩:∃ a rr er,jB p r=(a,rr,er):=⟨_,_,_,rfl⟩;have hal:=vC (p:=p) (r:=r);unfold slvV at h33;rw[hqe]at hr h33 hal;dsimp only at hr h33 hal;simp only[qL,jV]at h33 hr;rcases hr with ⟨her,rfl⟩|⟨her,rfl,b,hrow⟩
 . simp[-getElem?_pos,e2,e3,e5,e6,m0,m1,qa m0,qa m1];refine qc.call (G:=z5 GG) h33 (by simp) ?_;simp[-getElem?_pos,her];refine qc.call (G:=z5 GG) ha (by simp) ?_;simp[-getElem?_pos,ki]
 . have hal':=hal her;have hfa:Fits a:=by
    show a.length<_;rw[hal',h0];simp
   have look_row:qfD b H3 w a->∀ u,qC (frz (H3++u) 8 w)=true/\Leq (frz (H3++u) 8 w) (.sl 1 (a.map qu) .none)/\(qC w=true->Leq w (.sl 1 (a.map qu) .none)):=fun h u=>by
    refine qfD.frz (b:=b) ?_ 7;rcases h with h|⟨q1,q2,q3⟩
    . exact .inl h
    . exact .inr ⟨q1,q2,qa q3 u⟩
   simp[-getElem?_pos,e2,e3,e5,e6,m0,m1,qa m0,qa m1];refine qc.call (G:=z5 GG) h33 (by simp) ?_;simp[-getElem?_pos,her];refine qc.lent (G:=z5 GG) (qac a a hfa hfa) (by rfl) (by
    simp only[qo9,qpv,zn];refine⟨(look_row hrow _).2.1,?_,trivial⟩;rw[qG (by simp)];exact Leq.refl _) ?_
   simp[-getElem?_pos];have heq:YL (Dof Tryz.prog) 30 [AV.int .u64 rr.1,AV.int .u64 rr.2] [AV.int .u64 rr.1,AV.int .u64 rr.2]=some true:=by
    simp[YL,Jd,yj,qR,zO,qp8,zX,yq]
   simp[-getElem?_pos,heq];refine qc.call (G:=z5 GG) ha (by simp) ?_;simp[-getElem?_pos,ki]
theorem plain7 (p:Problem)(r:Rng)(h:VM p):Pure Tryz.prog GG 3 [.agg (qL p),.agg (jV r)] (.bool true):=by
 have hs:=qbM p h;have ha:=qiA
 cases hsm:yN p with
 | false=>
  refine Pure.kO ⟨false,qdb,[],[]⟩ true qe Tryz.func3 rfl (by kernel_rfl) ?_;rw[hsm]at hs;simp only[qL]at hs;simp[-getElem?_pos,jV];refine qc.call (G:=z5 GG) hs (by simp) ?_;simp[-getElem?_pos,unA];refine qc.call (G:=z5 GG) ha (by simp) ?_;simp[-getElem?_pos,ki]
 | true=>
  by_cases hvp:qr p=0
  . by_cases h0:p.vars=[]
    . exact qnC p h hsm hvp h0 r
    . exact qnD p h hsm hvp h0 r
  . refine Pure.kO ⟨false,qdb,[],[]⟩ true qe Tryz.func3 rfl (by kernel_rfl) ?_;rw[hsm]at hs;simp only[yN,qo0,decide_eq_true_eq,qpa]at hsm;obtain⟨⟨⟨⟨⟨⟨hvl,hdl⟩,hgl⟩,he1⟩,he2⟩,hwl⟩,hbl⟩:=hsm;have hq:=h.q hvl he1 he2;have hval:=Qt p hq (h.flat hgl);simp only[qL]at hs hval;simp[-getElem?_pos,jV];refine qc.call (G:=z5 GG) hs (by simp) ?_;simp[-getElem?_pos,unA];refine qc.call (G:=z5 GG) hval (by simp) ?_;simp[-getElem?_pos,unA,hvp];refine qc.call (G:=z5 GG) ha (by simp) ?_;simp[-getElem?_pos,ki]
section
section
variable {H:Type}{enc:TypeId×Value->H}{w:World}{base:Nat}{held:Bool}
theorem QF {fs:Array Field}{t n:Nat}{cs:List Value}{x:DataW H×List MemPlace}(ht:Tryz.prog.underlying t=some (.struct fs))(h:DataW.trod enc Tryz.prog w base (fun _=>true) held n t cs=some x) :
 ∃ m,n=m+1/\cs.length=Tryz.prog.cellsOf t/\∀ (i:Nat) (f:Field),fs[i]?=some f->∃ y,DataW.trod enc Tryz.prog w base (fun _=>true) held m f.type ((cs.drop f.offset).take (Tryz.prog.cellsOf f.type))=some y:=by
 obtain⟨xs,m,rfl,rfl,hl,hlen,hf⟩:=DataW.trod_struct ht h;refine⟨m,rfl,hl,fun i f hi=>?_⟩;have hlt:i<fs.size:=(qpG.1 hi).1;exact⟨xs[i]'(by omega),by rw[hf i f hi,qo1]⟩
theorem qgw {fs:Array Field}{t n:Nat}{cs:List Value}{x:DataW H×List MemPlace}(ht:Tryz.prog.underlying t=some (.struct fs))(h:DataW.trod enc Tryz.prog w base (fun _=>true) held n t cs=some x) :
 ∃ m,n=m+1/\cs.length=Tryz.prog.cellsOf t/\(∀ (i:Nat) (f:Field),fs[i]?=some f->∃ y,DataW.trod enc Tryz.prog w base (fun _=>true) held m f.type ((cs.drop f.offset).take (Tryz.prog.cellsOf f.type))=some y) /\
  ∀ (i:Nat) (f:Field),fs[i]?=some f->∀ y,DataW.trod enc Tryz.prog w base (fun _=>true) held m f.type ((cs.drop f.offset).take (Tryz.prog.cellsOf f.type))=some y->∃ xs:List (DataW H×List MemPlace),x.1=.agg (xs.map (·.1))/\xs.length=fs.size/\xs[i]?=some y:=by
 obtain⟨xs,m,rfl,rfl,hl,hlen,hf⟩:=DataW.trod_struct ht h;refine⟨m,rfl,hl,fun i f hi=>?_,fun i f hi y hy=>⟨xs,rfl,hlen,?_⟩⟩
 . have hlt:i<fs.size:=(qpG.1 hi).1;exact⟨xs[i]'(by omega),by rw[hf i f hi,qo1]⟩
 . rw[<- hf i f hi,hy]
theorem k3:Tryz.prog.cellsOf 3=1:=by kernel_rfl
theorem k4:Tryz.prog.cellsOf 4=1:=by kernel_rfl
theorem k9:Tryz.prog.cellsOf 9=1:=by kernel_rfl
theorem k37:Tryz.prog.cellsOf 41=1:=by kernel_rfl
theorem k22:Tryz.prog.cellsOf 22=1:=by kernel_rfl
theorem k23:Tryz.prog.cellsOf 23=1:=by kernel_rfl
theorem k24:Tryz.prog.cellsOf 24=1:=by kernel_rfl
theorem k25:Tryz.prog.cellsOf 25=1:=by kernel_rfl
theorem k27:Tryz.prog.cellsOf 27=5:=by kernel_rfl
theorem k57:Tryz.prog.cellsOf 66=4:=by kernel_rfl
theorem k50:Tryz.prog.cellsOf 39=4:=by kernel_rfl
theorem k75:Tryz.prog.cellsOf 49=1:=by kernel_rfl
theorem k77:Tryz.prog.cellsOf 51=2:=by kernel_rfl
theorem k145:Tryz.prog.cellsOf 86=4:=by kernel_rfl
theorem qbJ {s:ByteArray}:qf (KMw w) (.str s.data.toList) (.string s):=by
 obtain⟨d⟩:=s;unfold qf;show Value.string ⟨d⟩=Value.string ⟨d.toList.toArray⟩;rw[qqK]
theorem QE {n:Nat}{c:Value}{y:DataW H×List MemPlace}(h:DataW.trod enc Tryz.prog w base (fun _=>true) held n 3 [c]=some y):∃ i:Int,c=.int .i64 i:=by
 obtain⟨i,e,_⟩:=DataW.trod_int Tryz.underlying3 h;exact⟨i,(List.cons.inj e).1⟩
theorem qnv {n:Nat}{c:Value}{y:DataW H×List MemPlace}(h:DataW.trod enc Tryz.prog w base (fun _=>true) held n 4 [c]=some y):∃ i:Bool,c=.bool i:=by
 obtain⟨i,e,_⟩:=DataW.trod_bool Tryz.underlying4 h;exact⟨i,(List.cons.inj e).1⟩
theorem qlZ {n:Nat}{c:Value}{y:DataW H×List MemPlace}(h:DataW.trod enc Tryz.prog w base (fun _=>true) held n 9 [c]=some y):∃ s:ByteArray,c=.string s/\Fits s.data.toList:=by
 obtain⟨s,e,_,hs⟩:=DataW.trod_string Tryz.underlying9 h;refine⟨s,(List.cons.inj e).1,?_⟩;have:s.data.toList.length=s.size:=qpS;rw[Fits,this];simp only[maxLen]at hs;omega
theorem rdVar {n:Nat}{cs:List Value}{x:DataW H×List MemPlace}(h:DataW.trod enc Tryz.prog w base (fun _=>true) held n 39 cs=some x):∃ v:Var,qh (KMw w) (qx v) cs/\Fits v.name:=by
 obtain⟨m,rfl,hl,hf⟩:=QF Tryz.underlying39 h;rw[k50]at hl
 match cs,hl with
 | [a,b,c,d],_=>
  obtain⟨y0,h0⟩:=hf 0 _ rfl;obtain⟨y1,h1⟩:=hf 1 _ rfl;obtain⟨y2,h2⟩:=hf 2 _ rfl;obtain⟨y3,h3⟩:=hf 3 _ rfl;have h0:DataW.trod enc Tryz.prog w base (fun _=>true) held m 9 (List.take (Tryz.prog.cellsOf 9) (List.drop 0 [a,b,c,d]))=some y0:=h0;rw[k9]at h0;have h1:DataW.trod enc Tryz.prog w base (fun _=>true) held m 3 (List.take (Tryz.prog.cellsOf 3) (List.drop 1 [a,b,c,d]))=some y1:=h1;rw[k3]at h1;have h2:DataW.trod enc Tryz.prog w base (fun _=>true) held m 3 (List.take (Tryz.prog.cellsOf 3) (List.drop 2 [a,b,c,d]))=some y2:=h2;rw[k3]at h2;have h3:DataW.trod enc Tryz.prog w base (fun _=>true) held m 3 (List.take (Tryz.prog.cellsOf 3) (List.drop 3 [a,b,c,d]))=some y3:=h3;rw[k3]at h3;obtain⟨s,rfl,hs⟩:=qlZ (c:=a) h0;obtain⟨i1,rfl⟩:=QE (c:=b) h1;obtain⟨i2,rfl⟩:=QE (c:=c) h2;obtain⟨i3,rfl⟩:=QE (c:=d) h3;refine⟨⟨s.data.toList,i1,i2,i3⟩,?_,hs⟩;simp only[qx,qh];exact⟨_,_,rfl,qbJ,_,_,rfl,by simp[qf],_,_,rfl,by simp[qf],_,_,rfl,by simp[qf],rfl⟩
theorem qjI {n:Nat}{cs:List Value}{x:DataW H×List MemPlace}(h:DataW.trod enc Tryz.prog w base (fun _=>true) held n 86 cs=some x):∃ v:Weight,qh (KMw w) (qB v) cs/\True:=by
 obtain⟨m,rfl,hl,hf⟩:=QF Tryz.underlying86 h;rw[k145]at hl
 match cs,hl with
 | [a,b,c,d],_=>
  obtain⟨y0,h0⟩:=hf 0 _ rfl;obtain⟨y1,h1⟩:=hf 1 _ rfl;obtain⟨y2,h2⟩:=hf 2 _ rfl;obtain⟨y3,h3⟩:=hf 3 _ rfl;have h0:DataW.trod enc Tryz.prog w base (fun _=>true) held m 3 (List.take (Tryz.prog.cellsOf 3) (List.drop 0 [a,b,c,d]))=some y0:=h0;rw[k3]at h0;have h1:DataW.trod enc Tryz.prog w base (fun _=>true) held m 3 (List.take (Tryz.prog.cellsOf 3) (List.drop 1 [a,b,c,d]))=some y1:=h1;rw[k3]at h1;have h2:DataW.trod enc Tryz.prog w base (fun _=>true) held m 3 (List.take (Tryz.prog.cellsOf 3) (List.drop 2 [a,b,c,d]))=some y2:=h2;rw[k3]at h2;have h3:DataW.trod enc Tryz.prog w base (fun _=>true) held m 4 (List.take (Tryz.prog.cellsOf 4) (List.drop 3 [a,b,c,d]))=some y3:=h3;rw[k4]at h3;obtain⟨i0,rfl⟩:=QE (c:=a) h0;obtain⟨i1,rfl⟩:=QE (c:=b) h1;obtain⟨i2,rfl⟩:=QE (c:=c) h2;obtain⟨i3,rfl⟩:=qnv (c:=d) h3;refine⟨⟨i0,i1,i2,i3⟩,?_,trivial⟩;simp[qh,qf]
theorem rdDist {n:Nat}{cs:List Value}{x:DataW H×List MemPlace}(h:DataW.trod enc Tryz.prog w base (fun _=>true) held n 51 cs=some x):∃ v:Dist,qh (KMw w) (zC v) cs/\Fits v.weights:=by
 obtain⟨m,rfl,hl,hf⟩:=QF Tryz.underlying51 h;rw[k77]at hl
 match cs,hl with
 | [a,b],_=>
  obtain⟨y0,h0⟩:=hf 0 _ rfl;obtain⟨y1,h1⟩:=hf 1 _ rfl;have h0:DataW.trod enc Tryz.prog w base (fun _=>true) held m 3 (List.take (Tryz.prog.cellsOf 3) (List.drop 0 [a,b]))=some y0:=h0;rw[k3]at h0;have h1:DataW.trod enc Tryz.prog w base (fun _=>true) held m 49 (List.take (Tryz.prog.cellsOf 49) (List.drop 1 [a,b]))=some y1:=h1;rw[k75]at h1;obtain⟨i0,rfl⟩:=QE (c:=a) h0;have h1':DataW.trod enc Tryz.prog w base (fun _=>true) held m 49 [b]=some y1:=h1
  cases m with
  | zero=>simp[DataW.trod]at h1'
  | succ m=>
   obtain⟨l,v,e,hv,hfl,_⟩:=vD (en:=qB) (good:=fun _=>True) Tryz.underlying49 k145 (by omega) (fun y=>by simp[AV.atom]) (fun cs x h=>qjI h) h1';cases e;refine⟨⟨i0,l⟩,?_,hfl⟩;simp only[zC,qh,qf];exact⟨_,_,rfl,rfl,_,[],rfl,by simpa only[qf] using hv,rfl⟩
theorem rdE:∀ (N n:Nat),n<=N->∀ {cs:List Value} {x:DataW H×List MemPlace},DataW.trod enc Tryz.prog w base (fun _=>true) held n 66 cs=some x->∃ e:Ex,qh (KMw w) (qt e) cs/\Wen e:=by
 intro N
 induction N with
 | zero=>
  intro n hn cs x h;have:n=0:=by omega
  subst this;simp[DataW.trod]at h
 | succ N ih=>
  intro n hn cs x h;obtain⟨m,rfl,hl,hf⟩:=QF Tryz.underlying66 h;rw[k57]at hl
  match cs,hl with
  | [a,b,c,d],_=>
   obtain⟨y0,h0⟩:=hf 0 _ rfl;obtain⟨y1,h1⟩:=hf 1 _ rfl;obtain⟨y2,h2⟩:=hf 2 _ rfl;obtain⟨y3,h3⟩:=hf 3 _ rfl;have h0:DataW.trod enc Tryz.prog w base (fun _=>true) held m 3 (List.take (Tryz.prog.cellsOf 3) (List.drop 0 [a,b,c,d]))=some y0:=h0;rw[k3]at h0;have h1:DataW.trod enc Tryz.prog w base (fun _=>true) held m 3 (List.take (Tryz.prog.cellsOf 3) (List.drop 1 [a,b,c,d]))=some y1:=h1;rw[k3]at h1;have h2:DataW.trod enc Tryz.prog w base (fun _=>true) held m 9 (List.take (Tryz.prog.cellsOf 9) (List.drop 2 [a,b,c,d]))=some y2:=h2;rw[k9]at h2;have h3:DataW.trod enc Tryz.prog w base (fun _=>true) held m 23 (List.take (Tryz.prog.cellsOf 23) (List.drop 3 [a,b,c,d]))=some y3:=h3;rw[k23]at h3;obtain⟨i0,rfl⟩:=QE (c:=a) h0;obtain⟨i1,rfl⟩:=QE (c:=b) h1;obtain⟨s,rfl,hs⟩:=qlZ (c:=c) h2;have h3':DataW.trod enc Tryz.prog w base (fun _=>true) held m 23 [d]=some y3:=h3
   cases m with
   | zero=>simp[DataW.trod]at h3'
   | succ m=>
    obtain⟨l,v,e,hv,hfl,hg⟩:=vD (en:=qt) (good:=Wen) Tryz.underlying23 k57 (by omega) (fun y=>by rw[qd];simp[AV.atom]) (fun cs x h=>ih m (by omega) h) h3';cases e;refine⟨.mk i0 i1 s.data.toList l,?_,?_⟩
    . rw[qd];simp only[qh,Ex.op_mk,Ex.n_mk,Ex.name_mk,Ex.args_mk];exact⟨_,_,rfl,by simp[qf],_,_,rfl,by simp[qf],_,_,rfl,qbJ,_,[],rfl,hv,rfl⟩
    . intro y hy;rw[jk]at hy;rcases qpm.1 hy with rfl|hy
      . exact⟨hfl,hs⟩
      . obtain⟨a,ha,hya⟩:=vG.1 hy;exact hg a ha y hya
theorem b3:Tryz.prog.bytesOf 3=8:=by kernel_rfl
theorem w_all {P:Program}{e:TypeId}:∀ {E:List (DataW H)} {d:DataW H},d∈E->∀ k∈d.weights P e,k∈DataW.weightsAll P e E
 | [],_,h,_,_=>nomatch h
 | a::r,d,h,k,hk=>by
  simp only[DataW.weightsAll,qpk];rcases qpm.1 h with rfl|h
  . exact .inl hk
  . exact .inr (w_all h k hk)
theorem qjJ {n:Nat}{cs:List Value}{x:DataW H×List MemPlace}(h:DataW.trod enc Tryz.prog w base (fun _=>true) held (n+1) 25 cs=some x)(hw:∀ k∈x.1.weights Tryz.prog 25,k<=reachBytes) :
 ∃ (l:List (List Int)) (v:Value),cs=[v]/\qf (KMw w) (.sl 1 (l.map zB) .none) v/\Fits l/\∀ y∈l,Fits y/\y.length<17592186044416:=by
 obtain⟨l,v,h1,h2,h3,h4,_⟩:=J2 (en:=zB) (good:=fun g=>Fits g/\g.length<17592186044416) (X:=fun d=>∀ k∈d.weights Tryz.prog 41,k<=reachBytes) Tryz.underlying25 k37 (by omega) (fun y=>by simp[AV.atom]) (fun cs x h hx=>by
  cases n with
  | zero=>simp[DataW.trod]at h
  | succ m=>
   obtain⟨l,v,rfl,hv,hfl,_,hN⟩:=J2 (en:=qu) (good:=fun _=>True) (X:=fun _=>True) Tryz.underlying41 k3 (by omega) (fun y=>by simp[AV.atom]) (fun cs x h _=>by
    obtain⟨i,e,_⟩:=DataW.trod_int Tryz.underlying3 h;exact⟨i,by rw[e];simp[qh,qf],trivial⟩) h (fun _ _ _ _ _=>trivial)
   refine⟨l,?_,hfl,?_⟩
   . simp only[zB,qh];exact⟨v,[],rfl,hv,rfl⟩
   . have:=hN 17592186044415 fun E S e=>by
      have:=hx ((E.length+S.length)*Tryz.prog.bytesOf 3) (by rw[e];simp only[DataW.weights,Tryz.underlying41];exact qp2);rw[b3]at this;simp only[reachBytes]at this;omega
     omega) h (fun E S e d hd k hk=>hw k (by
      rw[e];simp only[DataW.weights,Tryz.underlying25];exact qpI _ (qpH _ (w_all hd k hk))))
 exact⟨l,v,h1,h2,h3,h4⟩
theorem rdP {n:Nat}{cs:List Value}{x:DataW H×List MemPlace}(h:DataW.trod enc Tryz.prog w base (fun _=>true) held n 27 cs=some x)(hw:∀ k∈x.1.weights Tryz.prog 27,k<=reachBytes):∃ p:Problem,qh (KMw w) (qL p) cs/\VM p:=by
 have hx:∀ y4,(∃ xs:List (DataW H×List MemPlace),x.1=.agg (xs.map (·.1))/\xs.length=5/\xs[4]?=some y4)->∀ k∈y4.1.weights Tryz.prog 25,k<=reachBytes:=by
  rintro y4 ⟨xs,e,hl,h4⟩ k hk;refine hw k ?_;rw[e]
  match xs,hl with
  | [a,b,c,d,e],_=>
   simp at h4;subst h4;simp only[DataW.weights,Tryz.underlying27,qo9,qpv,DataW.weightsEach,qpk];exact .inr (.inr (.inr (.inr (.inl hk))))
 obtain⟨m,rfl,hl,hf,hy⟩:=qgw Tryz.underlying27 h;rw[k27]at hl
 match cs,hl with
 | [a,b,c,d,e],_=>
  obtain⟨y0,h0⟩:=hf 0 _ rfl;obtain⟨y1,h1⟩:=hf 1 _ rfl;obtain⟨y2,h2⟩:=hf 2 _ rfl;obtain⟨y3,h3⟩:=hf 3 _ rfl;obtain⟨y4,h4⟩:=hf 4 _ rfl;have h4w:=hx y4 (hy 4 _ rfl y4 h4);have h0:DataW.trod enc Tryz.prog w base (fun _=>true) held m 22 (List.take (Tryz.prog.cellsOf 22) (List.drop 0 [a,b,c,d,e]))=some y0:=h0;rw[k22]at h0;have h1:DataW.trod enc Tryz.prog w base (fun _=>true) held m 23 (List.take (Tryz.prog.cellsOf 23) (List.drop 1 [a,b,c,d,e]))=some y1:=h1;rw[k23]at h1;have h2:DataW.trod enc Tryz.prog w base (fun _=>true) held m 23 (List.take (Tryz.prog.cellsOf 23) (List.drop 2 [a,b,c,d,e]))=some y2:=h2;rw[k23]at h2;have h3:DataW.trod enc Tryz.prog w base (fun _=>true) held m 24 (List.take (Tryz.prog.cellsOf 24) (List.drop 3 [a,b,c,d,e]))=some y3:=h3;rw[k24]at h3;have h4:DataW.trod enc Tryz.prog w base (fun _=>true) held m 25 (List.take (Tryz.prog.cellsOf 25) (List.drop 4 [a,b,c,d,e]))=some y4:=h4;rw[k25]at h4;have h0':DataW.trod enc Tryz.prog w base (fun _=>true) held m 22 [a]=some y0:=h0;have h1':DataW.trod enc Tryz.prog w base (fun _=>true) held m 23 [b]=some y1:=h1;have h2':DataW.trod enc Tryz.prog w base (fun _=>true) held m 23 [c]=some y2:=h2;have h3':DataW.trod enc Tryz.prog w base (fun _=>true) held m 24 [d]=some y3:=h3;have h4':DataW.trod enc Tryz.prog w base (fun _=>true) held m 25 [e]=some y4:=h4
  cases m with
  | zero=>simp[DataW.trod]at h0'
  | succ m=>
   obtain⟨l0,v0,e0,r0,f0,g0⟩:=vD (en:=qx) (good:=fun v=>Fits v.name) Tryz.underlying22 k50 (by omega) (fun y=>by simp[AV.atom]) (fun cs x h=>rdVar h) h0';obtain⟨l1,v1,e1,r1,f1,g1⟩:=vD (en:=qt) (good:=Wen) Tryz.underlying23 k57 (by omega) (fun y=>by rw[qd];simp[AV.atom]) (fun cs x h=>rdE m m (qo7 _) h) h1';obtain⟨l2,v2,e2,r2,f2,g2⟩:=vD (en:=qt) (good:=Wen) Tryz.underlying23 k57 (by omega) (fun y=>by rw[qd];simp[AV.atom]) (fun cs x h=>rdE m m (qo7 _) h) h2';obtain⟨l3,v3,e3,r3,f3,g3⟩:=vD (en:=zC) (good:=fun d=>Fits d.weights) Tryz.underlying24 k77 (by omega) (fun y=>by simp[AV.atom]) (fun cs x h=>rdDist h) h3';obtain⟨l4,v4,e4,r4,f4,g4⟩:=qjJ h4' h4w;cases e0;cases e1;cases e2;cases e3;cases e4;refine⟨⟨l0,l1,l2,l3,l4⟩,?_,⟨⟨g0,fun e he=>?_,f3,g3,f4,fun g hg=>(g4 g hg).1⟩,f0,f1,f2,fun g hg=>(g4 g hg).2⟩⟩
   . simp only[qL,qh];exact⟨_,_,rfl,r0,_,_,rfl,r1,_,_,rfl,r2,_,_,rfl,r3,_,_,rfl,r4,rfl⟩
   . rcases qpk.1 he with he|he
     . exact g1 e he
     . exact g2 e he
theorem k30:Tryz.prog.cellsOf 30=2:=by kernel_rfl
theorem k28:Tryz.prog.cellsOf 28=1:=by kernel_rfl
theorem qlY {n:Nat}{c:Value}{y:DataW H×List MemPlace}(h:DataW.trod enc Tryz.prog w base (fun _=>true) held n 28 [c]=some y):∃ i:Int,c=.int .u64 i:=by
 obtain⟨i,e,_⟩:=DataW.trod_int Tryz.underlying28 h;exact⟨i,(List.cons.inj e).1⟩
theorem rdR {n:Nat}{cs:List Value}{x:DataW H×List MemPlace}(h:DataW.trod enc Tryz.prog w base (fun _=>true) held n 30 cs=some x):∃ r:Rng,qh (KMw w) (jV r) cs/\True:=by
 obtain⟨m,rfl,hl,hf⟩:=QF Tryz.underlying30 h;rw[k30]at hl
 match cs,hl with
 | [a,b],_=>
  obtain⟨y0,h0⟩:=hf 0 _ rfl;obtain⟨y1,h1⟩:=hf 1 _ rfl;have h0:DataW.trod enc Tryz.prog w base (fun _=>true) held m 28 (List.take (Tryz.prog.cellsOf 28) (List.drop 0 [a,b]))=some y0:=h0;have h1:DataW.trod enc Tryz.prog w base (fun _=>true) held m 28 (List.take (Tryz.prog.cellsOf 28) (List.drop 1 [a,b]))=some y1:=h1;rw[k28]at h0 h1;obtain⟨i,rfl⟩:=qlY (c:=a) h0;obtain⟨j,rfl⟩:=qlY (c:=b) h1;refine⟨(i,j),?_,trivial⟩;simp only[jV,qh];exact⟨_,_,rfl,rfl,_,_,rfl,rfl,rfl⟩
end
end
end Go.Proofs.YtcadpamddlofjaaGreatDoor
end
