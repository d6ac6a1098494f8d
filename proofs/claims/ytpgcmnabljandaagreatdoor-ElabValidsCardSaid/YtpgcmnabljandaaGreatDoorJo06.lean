/- A part of the proof: texts Card5b. -/
import Derived.Test.YtpgcmnabljandaaGreatDoorJo05

set_option linter.unusedVariables false
set_option linter.unusedSimpArgs false
set_option maxRecDepth 100000
namespace Go.Proofs.YtpgcmnabljandaaGreatDoor
open Go

theorem card5_goes : false = Rows.elabValidsRow.goesBy Tryz.prog := by kernel_rfl
end Go.Proofs.YtpgcmnabljandaaGreatDoor
