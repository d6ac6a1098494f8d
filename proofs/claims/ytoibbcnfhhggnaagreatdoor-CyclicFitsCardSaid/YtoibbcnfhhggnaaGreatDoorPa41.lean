/- A part of the proof. -/
import Derived.Test.YtoibbcnfhhggnaaGreatDoorPa37
set_option maxRecDepth 100000
set_option linter.unusedSimpArgs false
set_option linter.unusedVariables false
set_option linter.defProp false
section
namespace Go.Proofs.YtoibbcnfhhggnaaGreatDoor
open Go
theorem qgn:false=Rows.cyclicFitsRow.goesBy Tryz.prog:=by kernel_rfl
end Go.Proofs.YtoibbcnfhhggnaaGreatDoor
end
