/- A part of the proof. -/
import Derived.Test.YtoibbcnfhhggnaaGreatDoorRows
import Derived.ProofKit
import Derived.Stop.Joined
import Derived.SevenTiedAt
set_option maxRecDepth 100000
set_option linter.unusedSimpArgs false
set_option linter.unusedVariables false
set_option linter.defProp false
section
namespace Go.Proofs.YtoibbcnfhhggnaaGreatDoor
open Go
theorem fn3 : Tryz.prog.funcNamed "testbench/testbenchlaw24.CyclicAll" = some 3 := by kernel_rfl
theorem inst3:Tryz.f3.isInstance Tryz.prog Rows.cyclicAllRow.origin Rows.cyclicAllRow.targs:=of_decide_eq_true (by kernel_rfl)
theorem wrap3:Tryz.f3.isWrapper Tryz.prog Rows.cyclicAllRow.wrapper Rows.cyclicAllRow.mainSum:=by unfold Func.isWrapper;first | (rw[if_pos (by decide +kernel)];kernel_rfl) | (rw[if_neg (by decide +kernel)];exact⟨rfl,rfl⟩)
end Go.Proofs.YtoibbcnfhhggnaaGreatDoor
end
