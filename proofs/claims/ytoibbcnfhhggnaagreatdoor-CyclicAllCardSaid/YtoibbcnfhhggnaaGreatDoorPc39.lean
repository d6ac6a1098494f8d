/- A part of the proof. -/
import Derived.Test.YtoibbcnfhhggnaaGreatDoorPc36
import Derived.Test.YtoibbcnfhhggnaaGreatDoorTie
import Derived.Test.YtoibbcnfhhggnaaGreatDoorCards
set_option maxRecDepth 100000
set_option linter.unusedSimpArgs false
set_option linter.unusedVariables false
set_option linter.defProp false
section
namespace Go.Proofs.YtoibbcnfhhggnaaGreatDoor
open Go
theorem qgo:Rows.cyclicAllRow.wfByText (OpenSpec.ofChange Rows.cyclicAllSpec)=true:=by kernel_rfl
theorem qgp : Tryz.prog.mainIs = some (true, "fde9a280b6af768279908896f69971a7bbf33bd2896679c5a6ded6e1cd53fefd".toList) := by kernel_rfl
theorem qdc:true=Tryz.prog.looks []:=by kernel_rfl
theorem qbS:([27,30].all fun u=>!Tryz.prog.wantsStandIn u)=true:=by kernel_rfl
end Go.Proofs.YtoibbcnfhhggnaaGreatDoor
end
