/- For every input that fits the row, the law ElabValids returns true and each argument reads afterwards as it read before: Valid, Bits and Random return the specified results, for all problems of at most 20 variables and expressions of at most 60 nodes. The package-level variables that the row lists start as the text of the program lays them; the card ties them to that text. -/
import Derived.Test.YtpgcmnabljandaaGreatDoorJo05
import Derived.Test.YtpgcmnabljandaaGreatDoorJo06

set_option linter.unusedVariables false
set_option linter.unusedSimpArgs false
set_option maxRecDepth 100000
namespace Go.Proofs.YtpgcmnabljandaaGreatDoor
open Go

theorem elabValids_card : Rows.ElabValidsCardSaid :=
  Claim7.holds_tied_plain_at .later [] [.data, .data, .data, .widerDeep] true (true, "438c544592da4d0fde47ce508cfbd717d9eaee5c99ea4794d263a81d85aa15ca") false
    elabValids_row (fun _ h => by cases h) card5_text (fun _ h => by cases h) elabValids_row_tie rfl ⟨rfl, rfl⟩ card5_main rfl
    (fun f fn hf hfn => by
      obtain rfl : f = 5 := Option.some.inj (fn5.symm.trans hf) |>.symm
      obtain rfl : fn = Tryz.f5 := (Option.some.inj (Tryz.func5.symm.trans hfn)).symm
      exact ⟨card5_looks, fun j t ht => by
        rw [Tryz.params5] at ht
        have hm : t ∈ [36] := by simpa using Array.mem_of_getElem? ht
        exact (show Tryz.prog.wantsStandIn t = false by simpa using List.all_eq_true.1 card5_params t hm)⟩)
    card5_goes
#print axioms elabValids_card
end Go.Proofs.YtpgcmnabljandaaGreatDoor
