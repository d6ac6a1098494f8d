/- A part of the proof. -/
import Derived.Test.YtpgcmnabljandaaGreatDoorPa16
set_option linter.unusedVariables false
set_option maxRecDepth 1000000
set_option linter.unusedSimpArgs false
set_option linter.defProp false
section
namespace Go.Proofs.YtpgcmnabljandaaGreatDoor
open Go Go.Abs
def C1 (g:FuncId)(args:List AV):Option AV:=match Nat.beq g 168 with
 | true=>match args with
  | [.str s]=>some (.bool (qO s))
  | _=>none
 | false=>match Nat.beq g 368 with
  | true=>match args with
   | [.str s,.int .u8 c]=>some (.int .i64 (Lib.indexByte s c.toNat.toUInt8))
   | _=>none
  | false=>none
end Go.Proofs.YtpgcmnabljandaaGreatDoor
end
