/- A part of the proof: Walk31b. -/
import Derived.Test.YtpgcmnabljandaaGreatDoorGa33
set_option linter.unusedVariables false
set_option linter.unusedSimpArgs false
set_option maxRecDepth 100000
section
namespace Go.Proofs.YtpgcmnabljandaaGreatDoor
open Go Go.Abs
end Go.Proofs.YtpgcmnabljandaaGreatDoor
end
