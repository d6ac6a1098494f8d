/- A part of the proof: texts Join6c Card6. -/
import Derived.Test.YtpgcmnabljandaaGreatDoorKa03
import Derived.Test.YtpgcmnabljandaaGreatDoorKa01
import Derived.Test.YtpgcmnabljandaaGreatDoorKa02
import Derived.Test.YtpgcmnabljandaaGreatDoorTie
import Derived.Test.YtpgcmnabljandaaGreatDoorCards

section
set_option linter.unusedVariables false
set_option linter.unusedSimpArgs false
set_option maxRecDepth 100000
namespace Go.Proofs.YtpgcmnabljandaaGreatDoor
open Go

theorem elabEnvs_row : Rows.ElabEnvsSaid :=
  OpenClaim.holds_of_wide 6 Tryz.f6 rfl rfl rfl rfl rfl rfl rfl ⟨rfl, rfl, rfl, rfl, rfl⟩ rfl rfl rfl rfl rfl fn6 Tryz.func6 facts6 inst6 wrap6
    (fun os started H enc _ => lifted6 os started H enc)
#print axioms elabEnvs_row
end Go.Proofs.YtpgcmnabljandaaGreatDoor
end

section
set_option linter.unusedVariables false
set_option linter.unusedSimpArgs false
set_option maxRecDepth 100000
namespace Go.Proofs.YtpgcmnabljandaaGreatDoor
open Go

theorem card6_text : Rows.elabEnvsRow.wfByText (OpenSpec.ofChange Rows.elabEnvsSpec) = true := by kernel_rfl
theorem card6_main : Tryz.prog.mainIs = some (true, "438c544592da4d0fde47ce508cfbd717d9eaee5c99ea4794d263a81d85aa15ca".toList) := by kernel_rfl
theorem card6_looks : false = Tryz.prog.looks [] := by kernel_rfl
theorem card6_params : ([36, 28, 55].all fun u => !Tryz.prog.wantsStandIn u) = true := by kernel_rfl
end Go.Proofs.YtpgcmnabljandaaGreatDoor
end
