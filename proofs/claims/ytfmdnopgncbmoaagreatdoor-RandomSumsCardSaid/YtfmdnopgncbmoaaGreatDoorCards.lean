/-
  DERIVED. GIVEN WITH THE SEED: THE CARDS: each row of YtfmdnopgncbmoaaGreatDoorRows.lean that lists a variable, with what it lists TIED to the program's text (the seventh form; the later family's looks); each row that meets fmt, with fmt's text TOLD by the authors' own Lean function (tested against real Go, not proved from fmt's source: count such statements apart). THE CARD IS WHAT COUNTS. Prove the row's statement (the work); the ties are given (YtfmdnopgncbmoaaGreatDoorTie.lean); close each card by the builder's one call (the guide's Derived/Test/ToyasCard.lean, 'card_holds'). Laid BY PROGRAM, IN A SANDBOX (cutbox-door.mjs). By AI agents, Wed Nov 11 2026. No macro, syntax, notation, axiom, sorry.
-/
import Derived.Test.YtfmdnopgncbmoaaGreatDoorRows
import GoSem.ClaimSeven
namespace Go.Proofs.YtfmdnopgncbmoaaGreatDoor
namespace Rows

/-- THE TIED CARD OF 'testbenchlaw23.RandomSums'. -/
def randomSumsCard : Claim7 := { stood := { row := randomSumsRow, standIns := [], harness := (true, "92419e895c52b274f0b33cf0432aec05d9891f40aba42b01ce0e9ccb50be94f7"), looks := true }, kinds := [], alts := [], laidByText := true, laidKinds := [.data, .data, .data, .widerDeep], laidTests := true, laidLooks := .later }
def RandomSumsCardSaid : Prop := Claim7.holds Tryz.pinned (.plain (OpenSpec.ofChange randomSumsSpec)) randomSumsCard

/-- THE SECOND FORM's CARD OF 'testbenchlaw23.RandomSums'. -/
def randomSumsUptoCard : Claim7 := { stood := { row := randomSumsUptoRow, standIns := [], harness := (true, "92419e895c52b274f0b33cf0432aec05d9891f40aba42b01ce0e9ccb50be94f7"), looks := true }, kinds := [], alts := [], laidByText := true, laidKinds := [.data, .data, .data, .widerDeep], laidTests := true, laidLooks := .later }
def RandomSumsUptoCardSaid : Prop := Claim7.holds Tryz.pinned (.plain (OpenSpec.upto randomSumsSpec)) randomSumsUptoCard
end Rows
end Go.Proofs.YtfmdnopgncbmoaaGreatDoor
