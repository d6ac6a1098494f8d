/- A part of the proof: texts Join5c Card5. -/
import Derived.Test.YtpgcmnabljandaaGreatDoorJo04
import Derived.Test.YtpgcmnabljandaaGreatDoorJo02
import Derived.Test.YtpgcmnabljandaaGreatDoorJo03
import Derived.Test.YtpgcmnabljandaaGreatDoorTie
import Derived.Test.YtpgcmnabljandaaGreatDoorCards

section
set_option linter.unusedVariables false
set_option linter.unusedSimpArgs false
set_option maxRecDepth 100000
namespace Go.Proofs.YtpgcmnabljandaaGreatDoor
open Go

theorem elabValids_row : Rows.ElabValidsSaid :=
  OpenClaim.holds_of_wide 5 Tryz.f5 rfl rfl rfl rfl rfl rfl rfl ⟨rfl, rfl, rfl, rfl, rfl⟩ rfl rfl rfl rfl rfl fn5 Tryz.func5 facts5 inst5 wrap5
    (fun os started H enc _ => lifted5 os started H enc)
#print axioms elabValids_row
end Go.Proofs.YtpgcmnabljandaaGreatDoor
end

section
set_option linter.unusedVariables false
set_option linter.unusedSimpArgs false
set_option maxRecDepth 100000
namespace Go.Proofs.YtpgcmnabljandaaGreatDoor
open Go

theorem card5_text : Rows.elabValidsRow.wfByText (OpenSpec.ofChange Rows.elabValidsSpec) = true := by kernel_rfl
theorem card5_main : Tryz.prog.mainIs = some (true, "438c544592da4d0fde47ce508cfbd717d9eaee5c99ea4794d263a81d85aa15ca".toList) := by kernel_rfl
theorem card5_looks : false = Tryz.prog.looks [] := by kernel_rfl
theorem card5_params : ([36].all fun u => !Tryz.prog.wantsStandIn u) = true := by kernel_rfl
end Go.Proofs.YtpgcmnabljandaaGreatDoor
end
