/-
  DERIVED. GIVEN WITH THE SEED: THE CARDS: each row of YtcadpamddlofjaaGreatDoorRows.lean that lists a variable, with what it lists TIED to the program's text (the seventh form; the later family's looks); each row that meets fmt, with fmt's text TOLD by the authors' own Lean function (tested against real Go, not proved from fmt's source: count such statements apart). THE CARD IS WHAT COUNTS. Prove the row's statement (the work); the ties are given (YtcadpamddlofjaaGreatDoorTie.lean); close each card by the builder's one call (the guide's Derived/Test/ToyasCard.lean, 'card_holds'). Laid BY PROGRAM, IN A SANDBOX (cutbox-door.mjs). By AI agents, Wed Nov 11 2026. No macro, syntax, notation, axiom, sorry.
-/
import Derived.Test.YtcadpamddlofjaaGreatDoorRows
import GoSem.ClaimSeven
namespace Go.Proofs.YtcadpamddlofjaaGreatDoor
namespace Rows

/-- THE TIED CARD OF 'testbenchlaw24.CyclicPlain'. -/
def cyclicPlainCard : Claim7 := { stood := { row := cyclicPlainRow, standIns := [], harness := (true, "fdd58fed03229fee45258d076e9544ee497cab8310ec777c0d19f101b992b17f"), looks := true }, kinds := [], alts := [], laidByText := true, laidKinds := [.data, .data, .data, .widerDeep], laidTests := true, laidLooks := .later }
def CyclicPlainCardSaid : Prop := Claim7.holds Tryz.pinned (.plain (OpenSpec.ofChange cyclicPlainSpec)) cyclicPlainCard

/-- THE SECOND FORM's CARD OF 'testbenchlaw24.CyclicPlain'. -/
def cyclicPlainUptoCard : Claim7 := { stood := { row := cyclicPlainUptoRow, standIns := [], harness := (true, "fdd58fed03229fee45258d076e9544ee497cab8310ec777c0d19f101b992b17f"), looks := true }, kinds := [], alts := [], laidByText := true, laidKinds := [.data, .data, .data, .widerDeep], laidTests := true, laidLooks := .later }
def CyclicPlainUptoCardSaid : Prop := Claim7.holds Tryz.pinned (.plain (OpenSpec.upto cyclicPlainSpec)) cyclicPlainUptoCard
end Rows
end Go.Proofs.YtcadpamddlofjaaGreatDoor
