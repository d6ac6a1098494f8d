/- A part of the proof: texts Card9b. -/
import Derived.Test.YtpgcmnabljandaaGreatDoorKb04

set_option linter.unusedVariables false
set_option linter.unusedSimpArgs false
set_option maxRecDepth 100000
namespace Go.Proofs.YtpgcmnabljandaaGreatDoor
open Go

theorem card9_goes : false = Rows.elabValuesRow.goesBy Tryz.prog := by kernel_rfl
end Go.Proofs.YtpgcmnabljandaaGreatDoor
