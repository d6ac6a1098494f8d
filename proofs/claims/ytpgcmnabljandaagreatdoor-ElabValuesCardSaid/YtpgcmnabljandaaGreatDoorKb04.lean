/- A part of the proof: texts Join9c Card9. -/
import Derived.Test.YtpgcmnabljandaaGreatDoorKb03
import Derived.Test.YtpgcmnabljandaaGreatDoorKb01
import Derived.Test.YtpgcmnabljandaaGreatDoorKb02
import Derived.Test.YtpgcmnabljandaaGreatDoorTie
import Derived.Test.YtpgcmnabljandaaGreatDoorCards

section
set_option linter.unusedVariables false
set_option linter.unusedSimpArgs false
set_option maxRecDepth 100000
namespace Go.Proofs.YtpgcmnabljandaaGreatDoor
open Go

theorem elabValues_row : Rows.ElabValuesSaid :=
  OpenClaim.holds_of_wide 9 Tryz.f9 rfl rfl rfl rfl rfl rfl rfl ⟨rfl, rfl, rfl, rfl, rfl⟩ rfl rfl rfl rfl rfl fn9 Tryz.func9 facts9 inst9 wrap9
    (fun os started H enc _ => lifted9 os started H enc)
#print axioms elabValues_row
end Go.Proofs.YtpgcmnabljandaaGreatDoor
end

section
set_option linter.unusedVariables false
set_option linter.unusedSimpArgs false
set_option maxRecDepth 100000
namespace Go.Proofs.YtpgcmnabljandaaGreatDoor
open Go

theorem card9_text : Rows.elabValuesRow.wfByText (OpenSpec.ofChange Rows.elabValuesSpec) = true := by kernel_rfl
theorem card9_main : Tryz.prog.mainIs = some (true, "438c544592da4d0fde47ce508cfbd717d9eaee5c99ea4794d263a81d85aa15ca".toList) := by kernel_rfl
theorem card9_looks : false = Tryz.prog.looks [] := by kernel_rfl
theorem card9_params : ([36, 55, 28].all fun u => !Tryz.prog.wantsStandIn u) = true := by kernel_rfl
end Go.Proofs.YtpgcmnabljandaaGreatDoor
end
