/- A part of the proof. -/
import Derived.Test.YtoibbcnfhhggnaaGreatDoorPc36
set_option maxRecDepth 100000
set_option linter.unusedSimpArgs false
set_option linter.unusedVariables false
set_option linter.defProp false
section
namespace Go.Proofs.YtoibbcnfhhggnaaGreatDoor
open Go
theorem qgq:false=Rows.cyclicAllRow.goesBy Tryz.prog:=by kernel_rfl
end Go.Proofs.YtoibbcnfhhggnaaGreatDoor
end
