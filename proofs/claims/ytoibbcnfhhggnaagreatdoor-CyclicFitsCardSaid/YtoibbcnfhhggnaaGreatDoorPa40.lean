/- A part of the proof. -/
import Derived.Test.YtoibbcnfhhggnaaGreatDoorPa37
import Derived.Test.YtoibbcnfhhggnaaGreatDoorTie
import Derived.Test.YtoibbcnfhhggnaaGreatDoorCards
set_option maxRecDepth 100000
set_option linter.unusedSimpArgs false
set_option linter.unusedVariables false
set_option linter.defProp false
section
namespace Go.Proofs.YtoibbcnfhhggnaaGreatDoor
open Go
theorem qgl:Rows.cyclicFitsRow.wfByText (OpenSpec.ofChange Rows.cyclicFitsSpec)=true:=by kernel_rfl
theorem qgm : Tryz.prog.mainIs = some (true, "fde9a280b6af768279908896f69971a7bbf33bd2896679c5a6ded6e1cd53fefd".toList) := by kernel_rfl
theorem qdc:true=Tryz.prog.looks []:=by kernel_rfl
theorem qbN:([27,41,30].all fun u=>!Tryz.prog.wantsStandIn u)=true:=by kernel_rfl
end Go.Proofs.YtoibbcnfhhggnaaGreatDoor
end
