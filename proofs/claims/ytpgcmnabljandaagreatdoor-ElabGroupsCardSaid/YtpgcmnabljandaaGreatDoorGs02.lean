/- A part of the proof: Row7a. -/
import Derived.Test.YtpgcmnabljandaaGreatDoorRows
import Derived.ProofKit
import Derived.Stop.Joined
import Derived.SevenTiedAt
set_option maxRecDepth 100000
set_option linter.unusedSimpArgs false
set_option linter.unusedVariables false
section
namespace Go.Proofs.YtpgcmnabljandaaGreatDoor
open Go
theorem fn7 : Tryz.prog.funcNamed "testbench/testbenchlaw14.ElabGroups" = some 7 := by kernel_rfl
theorem inst7:Tryz.f7.isInstance Tryz.prog Rows.elabGroupsRow.origin Rows.elabGroupsRow.targs:=of_decide_eq_true (by kernel_rfl)
theorem wrap7:Tryz.f7.isWrapper Tryz.prog Rows.elabGroupsRow.wrapper Rows.elabGroupsRow.mainSum:=by unfold Func.isWrapper;first | (rw [if_pos (by decide +kernel)];kernel_rfl) | (rw [if_neg (by decide +kernel)];exact⟨rfl,rfl⟩)
end Go.Proofs.YtpgcmnabljandaaGreatDoor
end
