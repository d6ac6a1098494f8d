/- A part of the proof. -/
import Derived.Test.YtoibbcnfhhggnaaGreatDoorPc35
import Derived.Test.YtoibbcnfhhggnaaGreatDoorPc36
import Derived.Test.YtoibbcnfhhggnaaGreatDoorPc37
set_option maxRecDepth 100000
set_option linter.unusedSimpArgs false
set_option linter.unusedVariables false
set_option linter.defProp false
section
namespace Go.Proofs.YtoibbcnfhhggnaaGreatDoor
open Go
theorem VV:Rows.CyclicAllSaid :=
 OpenClaim.holds_of_wide 3 Tryz.f3 rfl rfl rfl rfl rfl rfl rfl ⟨rfl,rfl,rfl,rfl,rfl⟩ rfl rfl rfl rfl rfl fn3 Tryz.func3 facts3 inst3 wrap3
  (fun os started H enc _=>qo2 os started H enc)
end Go.Proofs.YtoibbcnfhhggnaaGreatDoor
end
