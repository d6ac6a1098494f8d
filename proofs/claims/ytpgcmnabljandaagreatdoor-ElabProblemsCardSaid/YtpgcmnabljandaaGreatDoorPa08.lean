/- A part of the proof. -/
import Derived.Test.YtpgcmnabljandaaGreatDoorPa06
import Derived.Test.YtpgcmnabljandaaGreatDoorPa07
import Derived.KernelRfl
set_option linter.unusedVariables false
set_option maxRecDepth 100000
set_option linter.unusedSimpArgs false
set_option linter.defProp false
section
namespace Go.Proofs.YtpgcmnabljandaaGreatDoor
open Go Go.Abs
end Go.Proofs.YtpgcmnabljandaaGreatDoor
end
