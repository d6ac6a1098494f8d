/- A part of the proof. -/
import Derived.Test.YtoibbcnfhhggnaaGreatDoorRows
import Derived.ProofKit
import Derived.Stop.Joined
import Derived.SevenTiedAt
set_option maxRecDepth 100000
set_option linter.unusedSimpArgs false
set_option linter.unusedVariables false
set_option linter.defProp false
section
namespace Go.Proofs.YtoibbcnfhhggnaaGreatDoor
open Go
theorem fn4 : Tryz.prog.funcNamed "testbench/testbenchlaw24.CyclicFits" = some 4 := by kernel_rfl
theorem inst4:Tryz.f4.isInstance Tryz.prog Rows.cyclicFitsRow.origin Rows.cyclicFitsRow.targs:=of_decide_eq_true (by kernel_rfl)
theorem wrap4:Tryz.f4.isWrapper Tryz.prog Rows.cyclicFitsRow.wrapper Rows.cyclicFitsRow.mainSum:=by unfold Func.isWrapper;first | (rw[if_pos (by decide +kernel)];kernel_rfl) | (rw[if_neg (by decide +kernel)];exact⟨rfl,rfl⟩)
end Go.Proofs.YtoibbcnfhhggnaaGreatDoor
end
