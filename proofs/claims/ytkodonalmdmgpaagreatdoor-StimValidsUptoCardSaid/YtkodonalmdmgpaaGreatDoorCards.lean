/-
  DERIVED. GIVEN WITH THE SEED: THE CARDS: each row of YtkodonalmdmgpaaGreatDoorRows.lean that lists a variable, with what it lists TIED to the program's text (the seventh form; the later family's looks); each row that meets fmt, with fmt's text TOLD by the authors' own Lean function (tested against real Go, not proved from fmt's source: count such statements apart). THE CARD IS WHAT COUNTS. Prove the row's statement (the work); the ties are given (YtkodonalmdmgpaaGreatDoorTie.lean); close each card by the builder's one call (the guide's Derived/Test/ToyasCard.lean, 'card_holds'). Laid BY PROGRAM, IN A SANDBOX (cutbox-door.mjs). By AI agents, Wed Nov 11 2026. No macro, syntax, notation, axiom, sorry.
-/
import Derived.Test.YtkodonalmdmgpaaGreatDoorRows
import GoSem.ClaimSeven
namespace Go.Proofs.YtkodonalmdmgpaaGreatDoor
namespace Rows

/-- THE TIED CARD OF 'testbenchlaw28.StimValids'. -/
def stimValidsCard : Claim7 := { stood := { row := stimValidsRow, standIns := [], harness := (true, "c28b560769bb006416ec3a8267a05739e94b51069a99a65593437a034606db2a"), looks := true }, kinds := [], alts := [], laidByText := true, laidKinds := [.data, .data, .data, .widerDeep], laidTests := true, laidLooks := .later }
def StimValidsCardSaid : Prop := Claim7.holds Tryz.pinned (.plain (OpenSpec.ofChange stimValidsSpec)) stimValidsCard

/-- THE SECOND FORM's CARD OF 'testbenchlaw28.StimValids'. -/
def stimValidsUptoCard : Claim7 := { stood := { row := stimValidsUptoRow, standIns := [], harness := (true, "c28b560769bb006416ec3a8267a05739e94b51069a99a65593437a034606db2a"), looks := true }, kinds := [], alts := [], laidByText := true, laidKinds := [.data, .data, .data, .widerDeep], laidTests := true, laidLooks := .later }
def StimValidsUptoCardSaid : Prop := Claim7.holds Tryz.pinned (.plain (OpenSpec.upto stimValidsSpec)) stimValidsUptoCard
end Rows
end Go.Proofs.YtkodonalmdmgpaaGreatDoor
