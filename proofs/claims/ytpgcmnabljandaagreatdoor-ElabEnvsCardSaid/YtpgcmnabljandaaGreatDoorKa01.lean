/- A part of the proof: texts Row6a. -/
import Derived.Test.YtpgcmnabljandaaGreatDoorRows
import Derived.ProofKit
import Derived.Stop.Joined
import Derived.SevenTiedAt

set_option linter.unusedVariables false
set_option linter.unusedSimpArgs false
set_option maxRecDepth 100000
namespace Go.Proofs.YtpgcmnabljandaaGreatDoor
open Go

theorem fn6 : Tryz.prog.funcNamed "testbench/testbenchlaw14.ElabEnvs" = some 6 := by kernel_rfl
theorem inst6 : Tryz.f6.isInstance Tryz.prog Rows.elabEnvsRow.origin Rows.elabEnvsRow.targs := of_decide_eq_true (by kernel_rfl)
theorem wrap6 : Tryz.f6.isWrapper Tryz.prog Rows.elabEnvsRow.wrapper Rows.elabEnvsRow.mainSum := by unfold Func.isWrapper; first | (rw [if_pos (by decide +kernel)]; kernel_rfl) | (rw [if_neg (by decide +kernel)]; exact ⟨rfl, rfl⟩)
end Go.Proofs.YtpgcmnabljandaaGreatDoor
