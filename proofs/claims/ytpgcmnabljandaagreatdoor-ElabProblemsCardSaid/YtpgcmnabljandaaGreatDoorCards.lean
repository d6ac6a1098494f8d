/-
  DERIVED. GIVEN WITH THE SEED: THE CARDS: each row of YtpgcmnabljandaaGreatDoorRows.lean that lists a variable, with what it lists TIED to the program's text (the seventh form; the later family's looks); each row that meets fmt, with fmt's text TOLD by the authors' own Lean function (tested against real Go, not proved from fmt's source: count such statements apart). THE CARD IS WHAT COUNTS. Prove the row's statement (the work); the ties are given (YtpgcmnabljandaaGreatDoorTie.lean); close each card by the builder's one call (the guide's Derived/Test/ToyasCard.lean, 'card_holds'). Laid BY PROGRAM, IN A SANDBOX (cutbox-door.mjs). By AI agents, Wed Nov 11 2026. No macro, syntax, notation, axiom, sorry.
-/
import Derived.Test.YtpgcmnabljandaaGreatDoorRows
import GoSem.ClaimSeven
namespace Go.Proofs.YtpgcmnabljandaaGreatDoor
namespace Rows

/-- THE TIED CARD OF 'testbenchlaw14.ElabHolds'. -/
def elabHoldsCard : Claim7 := { stood := { row := elabHoldsRow, standIns := [], harness := (true, "438c544592da4d0fde47ce508cfbd717d9eaee5c99ea4794d263a81d85aa15ca"), looks := false }, kinds := [], alts := [], laidByText := true, laidKinds := [.data, .data, .data, .widerDeep], laidTests := true, laidLooks := .later }
def ElabHoldsCardSaid : Prop := Claim7.holds Tryz.pinned (.plain (OpenSpec.ofChange elabHoldsSpec)) elabHoldsCard

/-- THE TIED CARD OF 'testbenchlaw14.ElabProblems'. -/
def elabProblemsCard : Claim7 := { stood := { row := elabProblemsRow, standIns := [], harness := (true, "438c544592da4d0fde47ce508cfbd717d9eaee5c99ea4794d263a81d85aa15ca"), looks := false }, kinds := [], alts := [], laidByText := true, laidKinds := [.data, .data, .data, .widerDeep], laidTests := true, laidLooks := .later }
def ElabProblemsCardSaid : Prop := Claim7.holds Tryz.pinned (.plain (OpenSpec.ofChange elabProblemsSpec)) elabProblemsCard

/-- THE TIED CARD OF 'testbenchlaw14.ElabValids'. -/
def elabValidsCard : Claim7 := { stood := { row := elabValidsRow, standIns := [], harness := (true, "438c544592da4d0fde47ce508cfbd717d9eaee5c99ea4794d263a81d85aa15ca"), looks := false }, kinds := [], alts := [], laidByText := true, laidKinds := [.data, .data, .data, .widerDeep], laidTests := true, laidLooks := .later }
def ElabValidsCardSaid : Prop := Claim7.holds Tryz.pinned (.plain (OpenSpec.ofChange elabValidsSpec)) elabValidsCard

/-- THE TIED CARD OF 'testbenchlaw14.ElabEnvs'. -/
def elabEnvsCard : Claim7 := { stood := { row := elabEnvsRow, standIns := [], harness := (true, "438c544592da4d0fde47ce508cfbd717d9eaee5c99ea4794d263a81d85aa15ca"), looks := false }, kinds := [], alts := [], laidByText := true, laidKinds := [.data, .data, .data, .widerDeep], laidTests := true, laidLooks := .later }
def ElabEnvsCardSaid : Prop := Claim7.holds Tryz.pinned (.plain (OpenSpec.ofChange elabEnvsSpec)) elabEnvsCard

/-- THE TIED CARD OF 'testbenchlaw14.ElabGroups'. -/
def elabGroupsCard : Claim7 := { stood := { row := elabGroupsRow, standIns := [], harness := (true, "438c544592da4d0fde47ce508cfbd717d9eaee5c99ea4794d263a81d85aa15ca"), looks := false }, kinds := [], alts := [], laidByText := true, laidKinds := [.data, .data, .data, .widerDeep], laidTests := true, laidLooks := .later }
def ElabGroupsCardSaid : Prop := Claim7.holds Tryz.pinned (.plain (OpenSpec.ofChange elabGroupsSpec)) elabGroupsCard

/-- THE TIED CARD OF 'testbenchlaw14.ElabScalars'. -/
def elabScalarsCard : Claim7 := { stood := { row := elabScalarsRow, standIns := [], harness := (true, "438c544592da4d0fde47ce508cfbd717d9eaee5c99ea4794d263a81d85aa15ca"), looks := false }, kinds := [], alts := [], laidByText := true, laidKinds := [.data, .data, .data, .widerDeep], laidTests := true, laidLooks := .later }
def ElabScalarsCardSaid : Prop := Claim7.holds Tryz.pinned (.plain (OpenSpec.ofChange elabScalarsSpec)) elabScalarsCard

/-- THE TIED CARD OF 'testbenchlaw14.ElabValues'. -/
def elabValuesCard : Claim7 := { stood := { row := elabValuesRow, standIns := [], harness := (true, "438c544592da4d0fde47ce508cfbd717d9eaee5c99ea4794d263a81d85aa15ca"), looks := false }, kinds := [], alts := [], laidByText := true, laidKinds := [.data, .data, .data, .widerDeep], laidTests := true, laidLooks := .later }
def ElabValuesCardSaid : Prop := Claim7.holds Tryz.pinned (.plain (OpenSpec.ofChange elabValuesSpec)) elabValuesCard

/-- THE SECOND FORM's CARD OF 'testbenchlaw14.ElabHolds'. -/
def elabHoldsUptoCard : Claim7 := { stood := { row := elabHoldsUptoRow, standIns := [], harness := (true, "438c544592da4d0fde47ce508cfbd717d9eaee5c99ea4794d263a81d85aa15ca"), looks := false }, kinds := [], alts := [], laidByText := true, laidKinds := [.data, .data, .data, .widerDeep], laidTests := true, laidLooks := .later }
def ElabHoldsUptoCardSaid : Prop := Claim7.holds Tryz.pinned (.plain (OpenSpec.upto elabHoldsSpec)) elabHoldsUptoCard

/-- THE SECOND FORM's CARD OF 'testbenchlaw14.ElabProblems'. -/
def elabProblemsUptoCard : Claim7 := { stood := { row := elabProblemsUptoRow, standIns := [], harness := (true, "438c544592da4d0fde47ce508cfbd717d9eaee5c99ea4794d263a81d85aa15ca"), looks := false }, kinds := [], alts := [], laidByText := true, laidKinds := [.data, .data, .data, .widerDeep], laidTests := true, laidLooks := .later }
def ElabProblemsUptoCardSaid : Prop := Claim7.holds Tryz.pinned (.plain (OpenSpec.upto elabProblemsSpec)) elabProblemsUptoCard

/-- THE SECOND FORM's CARD OF 'testbenchlaw14.ElabValids'. -/
def elabValidsUptoCard : Claim7 := { stood := { row := elabValidsUptoRow, standIns := [], harness := (true, "438c544592da4d0fde47ce508cfbd717d9eaee5c99ea4794d263a81d85aa15ca"), looks := false }, kinds := [], alts := [], laidByText := true, laidKinds := [.data, .data, .data, .widerDeep], laidTests := true, laidLooks := .later }
def ElabValidsUptoCardSaid : Prop := Claim7.holds Tryz.pinned (.plain (OpenSpec.upto elabValidsSpec)) elabValidsUptoCard

/-- THE SECOND FORM's CARD OF 'testbenchlaw14.ElabEnvs'. -/
def elabEnvsUptoCard : Claim7 := { stood := { row := elabEnvsUptoRow, standIns := [], harness := (true, "438c544592da4d0fde47ce508cfbd717d9eaee5c99ea4794d263a81d85aa15ca"), looks := false }, kinds := [], alts := [], laidByText := true, laidKinds := [.data, .data, .data, .widerDeep], laidTests := true, laidLooks := .later }
def ElabEnvsUptoCardSaid : Prop := Claim7.holds Tryz.pinned (.plain (OpenSpec.upto elabEnvsSpec)) elabEnvsUptoCard

/-- THE SECOND FORM's CARD OF 'testbenchlaw14.ElabGroups'. -/
def elabGroupsUptoCard : Claim7 := { stood := { row := elabGroupsUptoRow, standIns := [], harness := (true, "438c544592da4d0fde47ce508cfbd717d9eaee5c99ea4794d263a81d85aa15ca"), looks := false }, kinds := [], alts := [], laidByText := true, laidKinds := [.data, .data, .data, .widerDeep], laidTests := true, laidLooks := .later }
def ElabGroupsUptoCardSaid : Prop := Claim7.holds Tryz.pinned (.plain (OpenSpec.upto elabGroupsSpec)) elabGroupsUptoCard

/-- THE SECOND FORM's CARD OF 'testbenchlaw14.ElabScalars'. -/
def elabScalarsUptoCard : Claim7 := { stood := { row := elabScalarsUptoRow, standIns := [], harness := (true, "438c544592da4d0fde47ce508cfbd717d9eaee5c99ea4794d263a81d85aa15ca"), looks := false }, kinds := [], alts := [], laidByText := true, laidKinds := [.data, .data, .data, .widerDeep], laidTests := true, laidLooks := .later }
def ElabScalarsUptoCardSaid : Prop := Claim7.holds Tryz.pinned (.plain (OpenSpec.upto elabScalarsSpec)) elabScalarsUptoCard

/-- THE SECOND FORM's CARD OF 'testbenchlaw14.ElabValues'. -/
def elabValuesUptoCard : Claim7 := { stood := { row := elabValuesUptoRow, standIns := [], harness := (true, "438c544592da4d0fde47ce508cfbd717d9eaee5c99ea4794d263a81d85aa15ca"), looks := false }, kinds := [], alts := [], laidByText := true, laidKinds := [.data, .data, .data, .widerDeep], laidTests := true, laidLooks := .later }
def ElabValuesUptoCardSaid : Prop := Claim7.holds Tryz.pinned (.plain (OpenSpec.upto elabValuesSpec)) elabValuesUptoCard
end Rows
end Go.Proofs.YtpgcmnabljandaaGreatDoor
