/- A part of the proof. -/
import Derived.Test.YtpjdjolphpfanaaGreatDoorGa48
import Derived.Test.YtpjdjolphpfanaaGreatDoorTie
import Derived.Test.YtpjdjolphpfanaaGreatDoorCards
set_option maxRecDepth 100000
set_option linter.unusedSimpArgs false
set_option linter.unusedVariables false
set_option linter.defProp false
section
namespace Go.Proofs.YtpjdjolphpfanaaGreatDoor
open Go

theorem card3_text : Rows.cyclicHistoriesRow.wfByText (OpenSpec.ofChange Rows.cyclicHistoriesSpec) = true := by kernel_rfl
theorem card3_main : Tryz.prog.mainIs = some (true, "d4072cbca0a1a4bd54c69fc80b80c7bd05bb8197aa880080f91aee428b665e92".toList) := by kernel_rfl
theorem card3_looks : true = Tryz.prog.looks [] := by kernel_rfl
theorem card3_params : ([27, 29, 3].all fun u => !Tryz.prog.wantsStandIn u) = true := by kernel_rfl
end Go.Proofs.YtpjdjolphpfanaaGreatDoor
end
