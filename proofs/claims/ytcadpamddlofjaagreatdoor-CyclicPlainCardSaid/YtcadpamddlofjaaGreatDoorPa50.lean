/- A part of the proof. -/
import Derived.Test.YtcadpamddlofjaaGreatDoorPa46
set_option maxRecDepth 100000
set_option linter.unusedSimpArgs false
set_option linter.unusedVariables false
set_option linter.defProp false
section
namespace Go.Proofs.YtcadpamddlofjaaGreatDoor
open Go
theorem qfr:false=Rows.cyclicPlainRow.goesBy Tryz.prog:=by kernel_rfl
end Go.Proofs.YtcadpamddlofjaaGreatDoor
end
