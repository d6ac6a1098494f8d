/- A part of the proof: texts Card8b. -/
import Derived.Test.YtpgcmnabljandaaGreatDoorKc03

set_option linter.unusedVariables false
set_option linter.unusedSimpArgs false
set_option maxRecDepth 100000
namespace Go.Proofs.YtpgcmnabljandaaGreatDoor
open Go

theorem card8_goes : false = Rows.elabScalarsRow.goesBy Tryz.prog := by kernel_rfl
end Go.Proofs.YtpgcmnabljandaaGreatDoor
