/- For every input that fits the row, the law ElabScalars returns true and each argument reads afterwards as it read before: Scalar returns the specified expression or error, for all problems of at most 20 variables and expressions of at most 60 nodes. The package-level variables that the row lists start as the text of the program lays them; the card ties them to that text. -/
import Derived.Test.YtpgcmnabljandaaGreatDoorKc03
import Derived.Test.YtpgcmnabljandaaGreatDoorKc04

set_option linter.unusedVariables false
set_option linter.unusedSimpArgs false
set_option maxRecDepth 100000
namespace Go.Proofs.YtpgcmnabljandaaGreatDoor
open Go

theorem elabScalars_card : Rows.ElabScalarsCardSaid :=
  Claim7.holds_tied_plain_at .later [] [.data, .data, .data, .widerDeep] true (true, "438c544592da4d0fde47ce508cfbd717d9eaee5c99ea4794d263a81d85aa15ca") false
    elabScalars_row (fun _ h => by cases h) card8_text (fun _ h => by cases h) elabScalars_row_tie rfl ⟨rfl, rfl⟩ card8_main rfl
    (fun f fn hf hfn => by
      obtain rfl : f = 8 := Option.some.inj (fn8.symm.trans hf) |>.symm
      obtain rfl : fn = Tryz.f8 := (Option.some.inj (Tryz.func8.symm.trans hfn)).symm
      exact ⟨card8_looks, fun j t ht => by
        rw [Tryz.params8] at ht
        have hm : t ∈ [36, 55] := by simpa using Array.mem_of_getElem? ht
        exact (show Tryz.prog.wantsStandIn t = false by simpa using List.all_eq_true.1 card8_params t hm)⟩)
    card8_goes
#print axioms elabScalars_card
end Go.Proofs.YtpgcmnabljandaaGreatDoor
