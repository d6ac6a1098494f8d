/- A part of the proof. -/
import Derived.Test.YtpjdjolphpfanaaGreatDoorGa48
set_option maxRecDepth 100000
set_option linter.unusedSimpArgs false
set_option linter.unusedVariables false
set_option linter.defProp false
section
namespace Go.Proofs.YtpjdjolphpfanaaGreatDoor
open Go

theorem card3_goes : false = Rows.cyclicHistoriesRow.goesBy Tryz.prog := by kernel_rfl
end Go.Proofs.YtpjdjolphpfanaaGreatDoor
end
