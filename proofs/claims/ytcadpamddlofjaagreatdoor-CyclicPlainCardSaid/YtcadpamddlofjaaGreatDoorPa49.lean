/- A part of the proof. -/
import Derived.Test.YtcadpamddlofjaaGreatDoorPa46
import Derived.Test.YtcadpamddlofjaaGreatDoorTie
import Derived.Test.YtcadpamddlofjaaGreatDoorCards
set_option maxRecDepth 100000
set_option linter.unusedSimpArgs false
set_option linter.unusedVariables false
set_option linter.defProp false
section
namespace Go.Proofs.YtcadpamddlofjaaGreatDoor
open Go
theorem qfp:Rows.cyclicPlainRow.wfByText (OpenSpec.ofChange Rows.cyclicPlainSpec)=true:=by kernel_rfl
theorem qfq : Tryz.prog.mainIs = some (true, "fdd58fed03229fee45258d076e9544ee497cab8310ec777c0d19f101b992b17f".toList) := by kernel_rfl
theorem qcx:true=Tryz.prog.looks []:=by kernel_rfl
theorem qa9:([27,30].all fun u=>!Tryz.prog.wantsStandIn u)=true:=by kernel_rfl
end Go.Proofs.YtcadpamddlofjaaGreatDoor
end
