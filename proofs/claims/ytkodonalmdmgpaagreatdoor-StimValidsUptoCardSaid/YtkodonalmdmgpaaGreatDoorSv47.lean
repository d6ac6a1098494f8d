import Derived.Test.YtkodonalmdmgpaaGreatDoorSv42
import Derived.Test.YtkodonalmdmgpaaGreatDoorSv43
import Derived.Test.YtkodonalmdmgpaaGreatDoorSv44
import Derived.Test.YtkodonalmdmgpaaGreatDoorSv45
import Derived.Test.YtkodonalmdmgpaaGreatDoorSv46
import Derived.Test.YtkodonalmdmgpaaGreatDoorSv35
import Derived.Test.YtkodonalmdmgpaaGreatDoorSv27
import Derived.Deep.DeepWitnessRowRef
import Derived.Test.YtkodonalmdmgpaaGreatDoorRows
import Derived.ProofKit
import Derived.Stop.Joined
import Derived.SevenTiedAt
set_option maxRecDepth 1000000
set_option linter.all false
set_option linter.defProp false
section
namespace Go.Proofs.YtkodonalmdmgpaaGreatDoor
open Go Go.Abs
def KL (g:FuncId):Bool:=Nat.beq g 7||Nat.beq g 30||Nat.beq g 41||Nat.beq g 44||Nat.beq g 62||Nat.beq g 63
def XL (g:FuncId) (args:List AV):Option AV :=
 pickB (Nat.beq g 62&&leqQ args [.sl 4 [[.str [111,110,101],.str [],.sl 5 [[.str [97],.int .i64 3,.int .i64 0,.int .i64 1,.int .i64 0]] .tight,.sl 0 [] .nil]] .tight,.str [111,110,101],.sl 0 [] .nil,.sl 0 [] .nil,.sl 0 [] .nil]) (some (.tup [.agg [.sl 4 [[.str [97],.int .i64 3,.int .i64 1,.int .i64 0]] .none,.sl 0 [] .nil,.sl 0 [] .nil,.sl 0 [] .nil,.sl 1 [[.sl 1 [[.int .i64 0]] .none]] .none],.int .i64 0])) <|
 pickB (Nat.beq g 63&&leqQ args [.agg [.sl 4 [[.str [97],.int .i64 3,.int .i64 1,.int .i64 0]] .none,.sl 0 [] .nil,.sl 0 [] .nil,.sl 0 [] .nil,.sl 1 [[.sl 1 [[.int .i64 0]] .none]] .none]]) (some (.agg [.sl 1 [[.sl 0 [] .nil]] .none])) <|
 pickB (Nat.beq g 7&&leqQ args [.agg [.int .i64 3,.int .i64 2,.str [],.sl 0 [] .nil,.sl 5 [[.int .i64 1,.int .i64 0,.str [111,110,101],.sl 0 [] .nil,.sl 0 [] .nil],[.int .i64 1,.int .i64 0,.str [111,110,101],.sl 0 [] .nil,.sl 0 [] .nil]] .tight]]) (some (.int .i64 0)) <|
 pickB (Nat.beq g 7&&leqQ args [.agg [.int .i64 5,.int .i64 0,.str [],.sl 0 [] .nil,.sl 5 [[.int .i64 2,.int .i64 0,.str [],.sl 0 [] .nil,.sl 5 [[.int .i64 1,.int .i64 0,.str [111,110,101],.sl 0 [] .nil,.sl 0 [] .nil],[.int .i64 1,.int .i64 0,.str [111,110,101],.sl 0 [] .nil,.sl 0 [] .nil]] .tight],[.int .i64 2,.int .i64 0,.str [],.sl 0 [] .nil,.sl 5 [[.int .i64 1,.int .i64 0,.str [111,110,101],.sl 0 [] .nil,.sl 0 [] .nil],[.int .i64 1,.int .i64 0,.str [111,110,101],.sl 0 [] .nil,.sl 0 [] .nil]] .tight]] .tight]]) (some (.int .i64 0)) <|
 pickB (Nat.beq g 30&&leqQ args [.int .u64 5,.str [48,46,48]]) (some (.tup [.agg [.int .u64 1642094416566546154,.int .u64 0],.int .i64 0])) <|
 pickB (Nat.beq g 30&&leqQ args [.int .u64 5,.str [48,46,49]]) (some (.tup [.agg [.int .u64 16722898625489692664,.int .u64 0],.int .i64 0])) <|
 pickB (Nat.beq g 30&&leqQ args [.int .u64 5,.str [49,46,48]]) (some (.tup [.agg [.int .u64 5636776020644590480,.int .u64 0],.int .i64 0])) <|
 pickB (Nat.beq g 30&&leqQ args [.int .u64 5,.str [49,46,49]]) (some (.tup [.agg [.int .u64 14689928107199444447,.int .u64 0],.int .i64 0])) <|
 pickB (Nat.beq g 41&&leqQ args [.agg [.sl 4 [[.str [97],.int .i64 3,.int .i64 1,.int .i64 0]] .none,.sl 0 [] .nil,.sl 0 [] .nil,.sl 0 [] .nil,.sl 1 [[.sl 1 [[.int .i64 0]] .none]] .none],.agg [.sl 1 [[.sl 0 [] .nil]] .none],.agg [.int .u64 1642094416566546154,.int .u64 0]]) (some (.tup [.sl 1 [[.int .i64 5]] .none,.agg [.sl 1 [[.sl 1 [] .none]] .none],.agg [.int .u64 1642094416566546154,.int .u64 1],.int .i64 0])) <|
 pickB (Nat.beq g 41&&leqQ args [.agg [.sl 4 [[.str [97],.int .i64 3,.int .i64 1,.int .i64 0]] .none,.sl 0 [] .nil,.sl 0 [] .nil,.sl 0 [] .nil,.sl 1 [[.sl 1 [[.int .i64 0]] .none]] .none],.agg [.sl 1 [[.sl 0 [] .nil]] .none],.agg [.int .u64 16722898625489692664,.int .u64 0]]) (some (.tup [.sl 1 [[.int .i64 4]] .none,.agg [.sl 1 [[.sl 1 [] .none]] .none],.agg [.int .u64 16722898625489692664,.int .u64 1],.int .i64 0])) <|
 pickB (Nat.beq g 41&&leqQ args [.agg [.sl 4 [[.str [97],.int .i64 3,.int .i64 1,.int .i64 0]] .none,.sl 0 [] .nil,.sl 0 [] .nil,.sl 0 [] .nil,.sl 1 [[.sl 1 [[.int .i64 0]] .none]] .none],.agg [.sl 1 [[.sl 0 [] .nil]] .none],.agg [.int .u64 5636776020644590480,.int .u64 0]]) (some (.tup [.sl 1 [[.int .i64 4]] .none,.agg [.sl 1 [[.sl 1 [] .none]] .none],.agg [.int .u64 5636776020644590480,.int .u64 1],.int .i64 0])) <|
 pickB (Nat.beq g 41&&leqQ args [.agg [.sl 4 [[.str [97],.int .i64 3,.int .i64 1,.int .i64 0]] .none,.sl 0 [] .nil,.sl 0 [] .nil,.sl 0 [] .nil,.sl 1 [[.sl 1 [[.int .i64 0]] .none]] .none],.agg [.sl 1 [[.sl 1 [] .none]] .none],.agg [.int .u64 5636776020644590480,.int .u64 0]]) (some (.tup [.sl 1 [[.int .i64 4]] .none,.agg [.sl 1 [[.sl 1 [] .none]] .none],.agg [.int .u64 5636776020644590480,.int .u64 1],.int .i64 0])) <|
 pickB (Nat.beq g 41&&leqQ args [.agg [.sl 4 [[.str [97],.int .i64 3,.int .i64 1,.int .i64 0]] .none,.sl 0 [] .nil,.sl 0 [] .nil,.sl 0 [] .nil,.sl 1 [[.sl 1 [[.int .i64 0]] .none]] .none],.agg [.sl 1 [[.sl 0 [] .nil]] .none],.agg [.int .u64 14689928107199444447,.int .u64 0]]) (some (.tup [.sl 1 [[.int .i64 5]] .none,.agg [.sl 1 [[.sl 1 [] .none]] .none],.agg [.int .u64 14689928107199444447,.int .u64 1],.int .i64 0])) <|
 pickB (Nat.beq g 41&&leqQ args [.agg [.sl 4 [[.str [97],.int .i64 3,.int .i64 1,.int .i64 0]] .none,.sl 0 [] .nil,.sl 0 [] .nil,.sl 0 [] .nil,.sl 1 [[.sl 1 [[.int .i64 0]] .none]] .none],.agg [.sl 1 [[.sl 1 [] .none]] .none],.agg [.int .u64 14689928107199444447,.int .u64 0]]) (some (.tup [.sl 1 [[.int .i64 5]] .none,.agg [.sl 1 [[.sl 1 [] .none]] .none],.agg [.int .u64 14689928107199444447,.int .u64 1],.int .i64 0])) <|
 pickB (Nat.beq g 44&&leqQ args [.str [],.int .i64 0]) (some (.tup [.str [48],.int .i64 0])) <|
 pickB (Nat.beq g 44&&leqQ args [.str [],.int .i64 1]) (some (.tup [.str [49],.int .i64 0])) <|
 pickB (Nat.beq g 44&&leqQ args [.str [48],.int .i64 0]) (some (.tup [.str [48,46,48],.int .i64 0])) <|
 pickB (Nat.beq g 44&&leqQ args [.str [48],.int .i64 1]) (some (.tup [.str [48,46,49],.int .i64 0])) <|
 pickB (Nat.beq g 44&&leqQ args [.str [49],.int .i64 0]) (some (.tup [.str [49,46,48],.int .i64 0])) <|
 pickB (Nat.beq g 44&&leqQ args [.str [49],.int .i64 1]) (some (.tup [.str [49,46,49],.int .i64 0])) <|
 none
theorem XL_ok:ConX Tryz.prog GG XL:=by
 intro g args r h
 unfold XL at h
 rcases conX_step problemF h with h|h
 · exact h
 rcases conX_step startF h with h|h
 · exact h
 rcases conX_step valid1F h with h|h
 · exact h
 rcases conX_step valid2F h with h|h
 · exact h
 rcases conX_step stream00F h with h|h
 · exact h
 rcases conX_step stream01F h with h|h
 · exact h
 rcases conX_step stream10F h with h|h
 · exact h
 rcases conX_step stream11F h with h|h
 · exact h
 rcases conX_step cyc00F h with h|h
 · exact h
 rcases conX_step cyc01F h with h|h
 · exact h
 rcases conX_step cyc10F h with h|h
 · exact h
 rcases conX_step cycb10F h with h|h
 · exact h
 rcases conX_step cyc11F h with h|h
 · exact h
 rcases conX_step cycb11F h with h|h
 · exact h
 rcases conX_step child0F h with h|h
 · exact h
 rcases conX_step child1F h with h|h
 · exact h
 rcases conX_step child00F h with h|h
 · exact h
 rcases conX_step child01F h with h|h
 · exact h
 rcases conX_step child10F h with h|h
 · exact h
 rcases conX_step child11F h with h|h
 · exact h
 cases h
theorem slots1F:Pure Tryz.prog GG 15 [.agg [.int .i64 3,.int .i64 2,.str [],.sl 0 [] .nil,.sl 5 [[.int .i64 1,.int .i64 0,.str [111,110,101],.sl 0 [] .nil,.sl 0 [] .nil],[.int .i64 1,.int .i64 0,.str [111,110,101],.sl 0 [] .nil,.sl 0 [] .nil]] .tight],.sl 4 [[.str [111,110,101],.str [],.sl 5 [[.str [97],.int .i64 3,.int .i64 0,.int .i64 1,.int .i64 0]] .tight,.sl 0 [] .nil]] .tight,.sl 0 [] .nil,.int .u64 5] (.tup [.sl 4 [[.bool false,.sl 1 [[.str [97]]] .none,.sl 1 [[.int .i64 5]] .none,.str [48,46,48]],[.bool false,.sl 1 [[.str [97]]] .none,.sl 1 [[.int .i64 4]] .none,.str [48,46,49]],[.bool false,.sl 1 [[.str [97]]] .none,.sl 1 [[.int .i64 4]] .none,.str [49,46,48]],[.bool false,.sl 1 [[.str [97]]] .none,.sl 1 [[.int .i64 5]] .none,.str [49,46,49]]] .none,.int .i64 0]):=Pure.closedA FA_ok (K:=KL) XL_ok 2000 60 (by kernel_rfl)
theorem slots2F:Pure Tryz.prog GG 15 [.agg [.int .i64 5,.int .i64 0,.str [],.sl 0 [] .nil,.sl 5 [[.int .i64 2,.int .i64 0,.str [],.sl 0 [] .nil,.sl 5 [[.int .i64 1,.int .i64 0,.str [111,110,101],.sl 0 [] .nil,.sl 0 [] .nil],[.int .i64 1,.int .i64 0,.str [111,110,101],.sl 0 [] .nil,.sl 0 [] .nil]] .tight],[.int .i64 2,.int .i64 0,.str [],.sl 0 [] .nil,.sl 5 [[.int .i64 1,.int .i64 0,.str [111,110,101],.sl 0 [] .nil,.sl 0 [] .nil],[.int .i64 1,.int .i64 0,.str [111,110,101],.sl 0 [] .nil,.sl 0 [] .nil]] .tight]] .tight],.sl 4 [[.str [111,110,101],.str [],.sl 5 [[.str [97],.int .i64 3,.int .i64 0,.int .i64 1,.int .i64 0]] .tight,.sl 0 [] .nil]] .tight,.sl 0 [] .nil,.int .u64 5] (.tup [.sl 4 [[.bool false,.sl 1 [[.str [97]]] .none,.sl 1 [[.int .i64 5]] .none,.str [48,46,48]],[.bool false,.sl 1 [[.str [97]]] .none,.sl 1 [[.int .i64 4]] .none,.str [49,46,48]],[.bool false,.sl 1 [[.str [97]]] .none,.sl 1 [[.int .i64 4]] .none,.str [48,46,49]],[.bool false,.sl 1 [[.str [97]]] .none,.sl 1 [[.int .i64 5]] .none,.str [49,46,49]]] .none,.int .i64 0]):=Pure.closedA FA_ok (K:=KL) XL_ok 2000 60 (by kernel_rfl)
def KZz (g:FuncId):Bool:=Nat.beq g 7||Nat.beq g 9||Nat.beq g 11||Nat.beq g 15
def XZz (g:FuncId) (args:List AV):Option AV :=
 pickB (Nat.beq g 15&&leqQ args [.agg [.int .i64 3,.int .i64 2,.str [],.sl 0 [] .nil,.sl 5 [[.int .i64 1,.int .i64 0,.str [111,110,101],.sl 0 [] .nil,.sl 0 [] .nil],[.int .i64 1,.int .i64 0,.str [111,110,101],.sl 0 [] .nil,.sl 0 [] .nil]] .tight],.sl 4 [[.str [111,110,101],.str [],.sl 5 [[.str [97],.int .i64 3,.int .i64 0,.int .i64 1,.int .i64 0]] .tight,.sl 0 [] .nil]] .tight,.sl 0 [] .nil,.int .u64 5]) (some (.tup [.sl 4 [[.bool false,.sl 1 [[.str [97]]] .none,.sl 1 [[.int .i64 5]] .none,.str [48,46,48]],[.bool false,.sl 1 [[.str [97]]] .none,.sl 1 [[.int .i64 4]] .none,.str [48,46,49]],[.bool false,.sl 1 [[.str [97]]] .none,.sl 1 [[.int .i64 4]] .none,.str [49,46,48]],[.bool false,.sl 1 [[.str [97]]] .none,.sl 1 [[.int .i64 5]] .none,.str [49,46,49]]] .none,.int .i64 0])) <|
 pickB (Nat.beq g 15&&leqQ args [.agg [.int .i64 5,.int .i64 0,.str [],.sl 0 [] .nil,.sl 5 [[.int .i64 2,.int .i64 0,.str [],.sl 0 [] .nil,.sl 5 [[.int .i64 1,.int .i64 0,.str [111,110,101],.sl 0 [] .nil,.sl 0 [] .nil],[.int .i64 1,.int .i64 0,.str [111,110,101],.sl 0 [] .nil,.sl 0 [] .nil]] .tight],[.int .i64 2,.int .i64 0,.str [],.sl 0 [] .nil,.sl 5 [[.int .i64 1,.int .i64 0,.str [111,110,101],.sl 0 [] .nil,.sl 0 [] .nil],[.int .i64 1,.int .i64 0,.str [111,110,101],.sl 0 [] .nil,.sl 0 [] .nil]] .tight]] .tight],.sl 4 [[.str [111,110,101],.str [],.sl 5 [[.str [97],.int .i64 3,.int .i64 0,.int .i64 1,.int .i64 0]] .tight,.sl 0 [] .nil]] .tight,.sl 0 [] .nil,.int .u64 5]) (some (.tup [.sl 4 [[.bool false,.sl 1 [[.str [97]]] .none,.sl 1 [[.int .i64 5]] .none,.str [48,46,48]],[.bool false,.sl 1 [[.str [97]]] .none,.sl 1 [[.int .i64 4]] .none,.str [49,46,48]],[.bool false,.sl 1 [[.str [97]]] .none,.sl 1 [[.int .i64 4]] .none,.str [48,46,49]],[.bool false,.sl 1 [[.str [97]]] .none,.sl 1 [[.int .i64 5]] .none,.str [49,46,49]]] .none,.int .i64 0])) <|
 pickB (Nat.beq g 7&&leqQ args [.agg [.int .i64 3,.int .i64 2,.str [],.sl 0 [] .nil,.sl 5 [[.int .i64 1,.int .i64 0,.str [111,110,101],.sl 0 [] .nil,.sl 0 [] .nil],[.int .i64 1,.int .i64 0,.str [111,110,101],.sl 0 [] .nil,.sl 0 [] .nil]] .tight]]) (some (.int .i64 0)) <|
 pickB (Nat.beq g 7&&leqQ args [.agg [.int .i64 5,.int .i64 0,.str [],.sl 0 [] .nil,.sl 5 [[.int .i64 2,.int .i64 0,.str [],.sl 0 [] .nil,.sl 5 [[.int .i64 1,.int .i64 0,.str [111,110,101],.sl 0 [] .nil,.sl 0 [] .nil],[.int .i64 1,.int .i64 0,.str [111,110,101],.sl 0 [] .nil,.sl 0 [] .nil]] .tight],[.int .i64 2,.int .i64 0,.str [],.sl 0 [] .nil,.sl 5 [[.int .i64 1,.int .i64 0,.str [111,110,101],.sl 0 [] .nil,.sl 0 [] .nil],[.int .i64 1,.int .i64 0,.str [111,110,101],.sl 0 [] .nil,.sl 0 [] .nil]] .tight]] .tight]]) (some (.int .i64 0)) <|
 pickB (Nat.beq g 7&&leqQ args [.agg [.int .i64 0,.int .i64 0,.str [],.sl 0 [] .nil,.sl 0 [] .nil]]) (some (.int .i64 1)) <|
 pickB (Nat.beq g 9&&leqQ args [.agg [.int .i64 3,.int .i64 2,.str [],.sl 0 [] .nil,.sl 5 [[.int .i64 1,.int .i64 0,.str [111,110,101],.sl 0 [] .nil,.sl 0 [] .nil],[.int .i64 1,.int .i64 0,.str [111,110,101],.sl 0 [] .nil,.sl 0 [] .nil]] .tight]]) (some (.int .i64 3)) <|
 pickB (Nat.beq g 9&&leqQ args [.agg [.int .i64 5,.int .i64 0,.str [],.sl 0 [] .nil,.sl 5 [[.int .i64 2,.int .i64 0,.str [],.sl 0 [] .nil,.sl 5 [[.int .i64 1,.int .i64 0,.str [111,110,101],.sl 0 [] .nil,.sl 0 [] .nil],[.int .i64 1,.int .i64 0,.str [111,110,101],.sl 0 [] .nil,.sl 0 [] .nil]] .tight],[.int .i64 2,.int .i64 0,.str [],.sl 0 [] .nil,.sl 5 [[.int .i64 1,.int .i64 0,.str [111,110,101],.sl 0 [] .nil,.sl 0 [] .nil],[.int .i64 1,.int .i64 0,.str [111,110,101],.sl 0 [] .nil,.sl 0 [] .nil]] .tight]] .tight]]) (some (.int .i64 7)) <|
 pickB (Nat.beq g 9&&leqQ args [.agg [.int .i64 0,.int .i64 0,.str [],.sl 0 [] .nil,.sl 0 [] .nil]]) (some (.int .i64 0)) <|
 pickB (Nat.beq g 11&&leqQ args [.agg [.int .i64 3,.int .i64 2,.str [],.sl 0 [] .nil,.sl 5 [[.int .i64 1,.int .i64 0,.str [111,110,101],.sl 0 [] .nil,.sl 0 [] .nil],[.int .i64 1,.int .i64 0,.str [111,110,101],.sl 0 [] .nil,.sl 0 [] .nil]] .tight]]) (some (.int .i64 4)) <|
 pickB (Nat.beq g 11&&leqQ args [.agg [.int .i64 5,.int .i64 0,.str [],.sl 0 [] .nil,.sl 5 [[.int .i64 2,.int .i64 0,.str [],.sl 0 [] .nil,.sl 5 [[.int .i64 1,.int .i64 0,.str [111,110,101],.sl 0 [] .nil,.sl 0 [] .nil],[.int .i64 1,.int .i64 0,.str [111,110,101],.sl 0 [] .nil,.sl 0 [] .nil]] .tight],[.int .i64 2,.int .i64 0,.str [],.sl 0 [] .nil,.sl 5 [[.int .i64 1,.int .i64 0,.str [111,110,101],.sl 0 [] .nil,.sl 0 [] .nil],[.int .i64 1,.int .i64 0,.str [111,110,101],.sl 0 [] .nil,.sl 0 [] .nil]] .tight]] .tight]]) (some (.int .i64 4)) <|
 pickB (Nat.beq g 11&&leqQ args [.agg [.int .i64 0,.int .i64 0,.str [],.sl 0 [] .nil,.sl 0 [] .nil]]) (some (.int .i64 0)) <|
 none
theorem XZz_ok:ConX Tryz.prog GG XZz:=by
 intro g args r h
 unfold XZz at h
 rcases conX_step slots1F h with h|h
 · exact h
 rcases conX_step slots2F h with h|h
 · exact h
 rcases conX_step valid1F h with h|h
 · exact h
 rcases conX_step valid2F h with h|h
 · exact h
 rcases conX_step valid0F h with h|h
 · exact h
 rcases conX_step size1F h with h|h
 · exact h
 rcases conX_step size2F h with h|h
 · exact h
 rcases conX_step size0F h with h|h
 · exact h
 rcases conX_step length1F h with h|h
 · exact h
 rcases conX_step length2F h with h|h
 · exact h
 rcases conX_step length0F h with h|h
 · exact h
 cases h
theorem worksF:Pure Tryz.prog GG 6 [] (.bool true):=Pure.closedA FA_ok (K:=KZz) XZz_ok 2000 60 (by kernel_rfl)
theorem valids3 (s:Sti) (h:HoldT s) (hn:(preT s).length≤2000000):Pure Tryz.prog GG 3 [.agg (encT s)] (.bool true):=valids3w worksF s h hn
end Go.Proofs.YtkodonalmdmgpaaGreatDoor
end
section
namespace Go.Proofs.YtkodonalmdmgpaaGreatDoor
open Go Go.Abs Go.ChangeShapes Go.WideShapes Go.ChangeAt Go.RowKit
theorem stay25_3 {H:Type} {enc:TypeId×Value→H} {W W':World} {v:Value} {d:DataW H} {ps:List MemPlace} {sp:Nat→Bool} (h:DataW.Trod enc Tryz.prog W 0 (fun _=>true) true 25 v d ps) (hb:Go.RowKit.Below W.heap.size W W') (hlt:∀ x∈ps,x.block<W.heap.size) (hs:∀ p∈ps,sp p.block=true) :
 DataW.Trod enc Tryz.prog W' 0 sp true 25 v d ps :=
 WideElems.Trod_stays laidOutTryz (by kernel_rfl) (of_decide_eq_true (by kernel_rfl)) h (fun x hx=>hb.same (hlt x hx)) hs
abbrev arg3:Array Value:=#[.agg #[.int .i64 0,.int .i64 0,.string ⟨#[]⟩,.slice none 0 0,.slice none 0 0]]
theorem reads3 (os:Os) {H:Type} (enc:TypeId×Value→H):∃ (d:DataW H) (places:List MemPlace),DataW.whole enc Tryz.prog ((World.doorLaid Tryz.prog 400 os).forCall (fun _ _=>0) ⟨#[],arg3,[]⟩).memory Tryz.f3.params.toList Rows.stimValidsSpec.vars false arg3.toList 8=some ([d],[],places)∧Rows.uptoBulk d≤100 :=
 ⟨.agg [.lit (.int .i64 0),.lit (.int .i64 0),.lit (.string []),.nil,.nil],[],by kernel_rfl,by simp [Rows.uptoBulk,Rows.uptoBulkAll]⟩
theorem lifted3 (os:Os) (started:os.Started) (H:Type) (enc:TypeId×Value→H) (F:Stop.Interp) :
 ReturnsInHanded {} Tryz.checked os 3 .any ((Rows.OpenSpec.upto Rows.stimValidsSpec).preRow enc Tryz.prog Tryz.f3 Rows.stimValidsUptoRow.domain false laidL) (((Rows.OpenSpec.upto Rows.stimValidsSpec).at F).post enc Tryz.prog Tryz.f3 false true false false):=by
 obtain⟨dw,places,hx,hbw⟩:=reads3 os enc
 refine returnsInHanded_of_row (C:=Tryz.checked) (s:=Rows.OpenSpec.upto Rows.stimValidsSpec) ownTryz started (by kernel_rfl) Tryz.func3
  (witness_row_atRef (enc:=enc) (C:=Tryz.checked) false (World.doorLaid Tryz.prog 400 os) arg3 rfl (by kernel_rfl) (by kernel_rfl) (by kernel_rfl)
    (OpenSpec.preRow_of_cond 8 hx (by kernel_rfl) (fun k hk=>by
      cases hk
      refine decide_eq_true ?_
      simp only [List.append_nil,Rows.uptoBulkAll]
      omega) (by kernel_rfl) (door_met os _))) ?_
 intro W base args ds gs before hval0 hW _ hcond _ hL _ _
 have hval:∀ (j:Nat) t v,Tryz.f3.params[j]?=some t→args[j]?=some v→Value.okWide Tryz.prog W .any base t v:=hval0
 have hk:Rows.uptoBulkAll (ds++gs)≤1048576:=of_decide_eq_true (hcond _ rfl)
 show Calls Tryz.prog 3 args W fun e W'=>∃ v,e=.returned v∧Rows.stimValidsSpec.post enc Tryz.prog Tryz.f3 false true false false W args v W'
 have hW':=hW
 obtain⟨p,q,hA0,hV,rfl,hfz,hnd⟩:=hW
 have hA:DataW.TrodAll enc Tryz.prog W 0 (fun _=>true) true Tryz.f3.params.toList args.toList ds p:=hA0
 rw [Tryz.params3] at hA hval
 obtain⟨v0,d0,rfl,rfl,h0⟩:=trodAll_one hA
 obtain⟨rfl,rfl⟩:=trodVars_none hV
 have hv0:=hval 0 25 v0 rfl rfl
 unfold Value.okWide at hv0
 rw [Tryz.underlying25] at hv0
 obtain⟨cs0,rfl,_,_⟩:=hv0
 have h0':=h0
 obtain⟨fuel0,hf0⟩:=h0
 obtain⟨x0,hrel0,hn0,hb0⟩:=rdT fuel0 fuel0 (Nat.le_refl _) hf0
 have hk0:Rows.uptoBulk d0≤1048576:=by
  simp only [List.append_nil,Rows.uptoBulkAll] at hk
  exact hk
 have hpure:=valids3 x0 (holdT_of hb0 hk0) (by have:=hn0;simp only at this;omega)
 have hargs:VRels (KW W) [.agg (encT x0)] (#[Value.agg cs0]:Array Value).toList:=by
  simp only [VRels]
  have g0:VRel (KW W) (.agg (encT x0)) (Value.agg cs0):=by
   unfold VRel;exact⟨cs0,rfl,hrel0⟩
  exact⟨_,_,rfl,g0,rfl⟩
 refine (hpure.2 W (roAll W) #[Value.agg cs0] (glob_laid hL) (fun _ _ _ e=>e) hargs).mono ?_
 rintro e W' ⟨v,ro',rfl,hb,_,_,_,hv⟩
 have hv1:v=.bool true:=by simpa only [VRel] using hv
 subst hv1
 have hW2:=hW'
 simp only [List.append_nil] at hW2
 have hlt:=fun x hx=>hW2.lt x hx
 refine⟨_,rfl,[d0],[],p,[],p,[],hW2,?_,?_,?_,hb.frame _,fun h=>by cases h⟩
 · exact trodAll_mk1 (shut_bool Tryz.underlying4 true)
 · exact trodAll_mk1 (stay25_3 h0' hb (fun x hx=>hlt x hx) (fun x hx=>by simpa using hlt x hx))
 · rfl
end Go.Proofs.YtkodonalmdmgpaaGreatDoor
end
section
namespace Go.Proofs.YtkodonalmdmgpaaGreatDoor
open Go
theorem fn3 : Tryz.prog.funcNamed "testbench/testbenchlaw28.StimValids" = some 3 := by kernel_rfl
theorem inst3:Tryz.f3.isInstance Tryz.prog Rows.stimValidsUptoRow.origin Rows.stimValidsUptoRow.targs:=of_decide_eq_true (by kernel_rfl)
theorem wrap3:Tryz.f3.isWrapper Tryz.prog Rows.stimValidsUptoRow.wrapper Rows.stimValidsUptoRow.mainSum:=by unfold Func.isWrapper;first | (rw [if_pos (by decide +kernel)];kernel_rfl) | (rw [if_neg (by decide +kernel)];exact⟨rfl,rfl⟩)
end Go.Proofs.YtkodonalmdmgpaaGreatDoor
end
