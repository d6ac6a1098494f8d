/- A part of the proof. -/
import Derived.Test.YtpjdjolphpfanaaGreatDoorGa47
import Derived.Test.YtpjdjolphpfanaaGreatDoorGa48
import Derived.Test.YtpjdjolphpfanaaGreatDoorGa49
set_option maxRecDepth 100000
set_option linter.unusedSimpArgs false
set_option linter.unusedVariables false
set_option linter.defProp false
section
namespace Go.Proofs.YtpjdjolphpfanaaGreatDoor
open Go

theorem cyclicHistories_row : Rows.CyclicHistoriesSaid :=
  OpenClaim.holds_of_wide 3 Tryz.f3 rfl rfl rfl rfl rfl rfl rfl ⟨rfl, rfl, rfl, rfl, rfl⟩ rfl rfl rfl rfl rfl fn3 Tryz.func3 facts3 inst3 wrap3
    (fun os started H enc _ => lifted3 os started H enc)
#print axioms cyclicHistories_row
end Go.Proofs.YtpjdjolphpfanaaGreatDoor
end
