/- A part of the proof. -/
import Derived.Test.YtcadpamddlofjaaGreatDoorPa45
import Derived.Test.YtcadpamddlofjaaGreatDoorPa46
import Derived.Test.YtcadpamddlofjaaGreatDoorPa47
set_option maxRecDepth 100000
set_option linter.unusedSimpArgs false
set_option linter.unusedVariables false
set_option linter.defProp false
section
namespace Go.Proofs.YtcadpamddlofjaaGreatDoor
open Go
theorem YO:Rows.CyclicPlainSaid :=
 OpenClaim.holds_of_wide 3 Tryz.f3 rfl rfl rfl rfl rfl rfl rfl ⟨rfl,rfl,rfl,rfl,rfl⟩ rfl rfl rfl rfl rfl fn3 Tryz.func3 facts3 inst3 wrap3
  (fun os started H enc _=>qn1 os started H enc)
end Go.Proofs.YtcadpamddlofjaaGreatDoor
end
