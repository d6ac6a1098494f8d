/-
  DERIVED. GIVEN WITH THE SEED: THE CARDS: each row of YtdapogpjhljhaaaGreatDoorRows.lean that lists a variable, with what it lists TIED to the program's text (the seventh form; the later family's looks); each row that meets fmt, with fmt's text TOLD by the authors' own Lean function (tested against real Go, not proved from fmt's source: count such statements apart). THE CARD IS WHAT COUNTS. Prove the row's statement (the work); the ties are given (YtdapogpjhljhaaaGreatDoorTie.lean); close each card by the builder's one call (the guide's Derived/Test/ToyasCard.lean, 'card_holds'). Laid BY PROGRAM, IN A SANDBOX (cutbox-door.mjs). By AI agents, Wed Nov 11 2026. No macro, syntax, notation, axiom, sorry.
-/
import Derived.Test.YtdapogpjhljhaaaGreatDoorRows
import GoSem.ClaimSeven
namespace Go.Proofs.YtdapogpjhljhaaaGreatDoor
namespace Rows

/-- THE TIED CARD OF 'testbenchlaw24.CyclicSolves'. -/
def cyclicSolvesCard : Claim7 := { stood := { row := cyclicSolvesRow, standIns := [], harness := (true, "7db7f6ef2a26abcefd150381d6faa7ff1d41f28f9cba386a719173d8be85268a"), looks := true }, kinds := [], alts := [], laidByText := true, laidKinds := [.data, .data, .data, .widerDeep], laidTests := true, laidLooks := .later }
def CyclicSolvesCardSaid : Prop := Claim7.holds Tryz.pinned (.plain (OpenSpec.ofChange cyclicSolvesSpec)) cyclicSolvesCard

/-- THE SECOND FORM's CARD OF 'testbenchlaw24.CyclicSolves'. -/
def cyclicSolvesUptoCard : Claim7 := { stood := { row := cyclicSolvesUptoRow, standIns := [], harness := (true, "7db7f6ef2a26abcefd150381d6faa7ff1d41f28f9cba386a719173d8be85268a"), looks := true }, kinds := [], alts := [], laidByText := true, laidKinds := [.data, .data, .data, .widerDeep], laidTests := true, laidLooks := .later }
def CyclicSolvesUptoCardSaid : Prop := Claim7.holds Tryz.pinned (.plain (OpenSpec.upto cyclicSolvesSpec)) cyclicSolvesUptoCard
end Rows
end Go.Proofs.YtdapogpjhljhaaaGreatDoor
