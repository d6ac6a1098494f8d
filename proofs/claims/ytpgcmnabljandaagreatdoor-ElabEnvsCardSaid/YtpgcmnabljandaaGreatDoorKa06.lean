/- For every input that fits the row, the law ElabEnvs returns true and each argument reads afterwards as it read before: Env and Holds return the specified results, for all problems of at most 20 variables, lists of at most 40 values and expressions of at most 60 nodes. The package-level variables that the row lists start as the text of the program lays them; the card ties them to that text. -/
import Derived.Test.YtpgcmnabljandaaGreatDoorKa04
import Derived.Test.YtpgcmnabljandaaGreatDoorKa05

set_option linter.unusedVariables false
set_option linter.unusedSimpArgs false
set_option maxRecDepth 100000
namespace Go.Proofs.YtpgcmnabljandaaGreatDoor
open Go

theorem elabEnvs_card : Rows.ElabEnvsCardSaid :=
  Claim7.holds_tied_plain_at .later [] [.data, .data, .data, .widerDeep] true (true, "438c544592da4d0fde47ce508cfbd717d9eaee5c99ea4794d263a81d85aa15ca") false
    elabEnvs_row (fun _ h => by cases h) card6_text (fun _ h => by cases h) elabEnvs_row_tie rfl ⟨rfl, rfl⟩ card6_main rfl
    (fun f fn hf hfn => by
      obtain rfl : f = 6 := Option.some.inj (fn6.symm.trans hf) |>.symm
      obtain rfl : fn = Tryz.f6 := (Option.some.inj (Tryz.func6.symm.trans hfn)).symm
      exact ⟨card6_looks, fun j t ht => by
        rw [Tryz.params6] at ht
        have hm : t ∈ [36, 28, 55] := by simpa using Array.mem_of_getElem? ht
        exact (show Tryz.prog.wantsStandIn t = false by simpa using List.all_eq_true.1 card6_params t hm)⟩)
    card6_goes
#print axioms elabEnvs_card
end Go.Proofs.YtpgcmnabljandaaGreatDoor
