/- A part of the proof. -/
import Derived.Test.YtpgcmnabljandaaGreatDoorPa06
set_option linter.unusedVariables false
set_option linter.unusedSimpArgs false
set_option linter.defProp false
section
namespace Go.Abs
open Go Go.RowKit
section
section
variable {P:Program}{G:Nat->AV}
end
end
end Go.Abs
end
