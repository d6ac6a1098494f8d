/- A part of the proof. -/
import Derived.Test.YtoibbcnfhhggnaaGreatDoorPa36
import Derived.Test.YtoibbcnfhhggnaaGreatDoorPa37
import Derived.Test.YtoibbcnfhhggnaaGreatDoorPa38
set_option maxRecDepth 100000
set_option linter.unusedSimpArgs false
set_option linter.unusedVariables false
set_option linter.defProp false
section
namespace Go.Proofs.YtoibbcnfhhggnaaGreatDoor
open Go
theorem KJ:Rows.CyclicFitsSaid :=
 OpenClaim.holds_of_wide 4 Tryz.f4 rfl rfl rfl rfl rfl rfl rfl ⟨rfl,rfl,rfl,rfl,rfl⟩ rfl rfl rfl rfl rfl fn4 Tryz.func4 facts4 inst4 wrap4
  (fun os started H enc _=>qpo os started H enc)
end Go.Proofs.YtoibbcnfhhggnaaGreatDoor
end
