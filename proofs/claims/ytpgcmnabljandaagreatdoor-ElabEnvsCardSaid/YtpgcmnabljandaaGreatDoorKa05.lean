/- A part of the proof: texts Card6b. -/
import Derived.Test.YtpgcmnabljandaaGreatDoorKa04

set_option linter.unusedVariables false
set_option linter.unusedSimpArgs false
set_option maxRecDepth 100000
namespace Go.Proofs.YtpgcmnabljandaaGreatDoor
open Go

theorem card6_goes : false = Rows.elabEnvsRow.goesBy Tryz.prog := by kernel_rfl
end Go.Proofs.YtpgcmnabljandaaGreatDoor
