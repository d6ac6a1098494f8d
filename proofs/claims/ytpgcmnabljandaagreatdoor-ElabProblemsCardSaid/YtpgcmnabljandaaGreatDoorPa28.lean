/- A part of the proof. -/
import Derived.Test.YtpgcmnabljandaaGreatDoorPa26
import Derived.Test.YtpgcmnabljandaaGreatDoorPa27
set_option linter.unusedVariables false
set_option maxRecDepth 1000000
set_option linter.unusedSimpArgs false
set_option linter.defProp false
section
namespace Go.Proofs.YtpgcmnabljandaaGreatDoor
open Go Go.Abs
def srcA:AV:=.sl 4 [[.str [112,97,105,114],.str [],.sl 5 [[.str [97],.int .i64 2,.int .i64 0,.int .i64 1,.int .i64 0],[.str [98],.int .i64 2,.int .i64 0,.int .i64 1,.int .i64 0]] .tight,.sl 2 [[.str [99],.sl 12 [[.int .i64 1,.int .i64 17,.int .i64 0,.str [],.sl 4 [[.int .i64 2,.int .i64 0,.str [97],.sl 0 [] .nil],[.int .i64 2,.int .i64 0,.str [98],.sl 0 [] .nil]] .tight,.str [],.str [],.sl 0 [] .nil,.sl 0 [] .nil,.sl 0 [] .nil,.sl 0 [] .nil,.sl 0 [] .nil],[.int .i64 6,.int .i64 0,.int .i64 0,.str [],.sl 0 [] .nil,.str [],.str [],.sl 0 [] .nil,.sl 0 [] .nil,.sl 0 [] .nil,.sl 1 [[.str [97]]] .tight,.sl 1 [[.str [98]]] .tight]] .tight]] .tight]] .tight
def K0 (_:FuncId):Bool:=false
def K3 (g:FuncId):Bool:=Nat.beq g 13||(Nat.beq g 45||(Nat.beq g 48||(Nat.beq g 116||Nat.beq g 14)))
end Go.Proofs.YtpgcmnabljandaaGreatDoor
end
