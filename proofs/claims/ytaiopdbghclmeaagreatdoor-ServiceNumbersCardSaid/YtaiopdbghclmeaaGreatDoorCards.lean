/-
  DERIVED. GIVEN WITH THE SEED: THE CARDS: each row of YtaiopdbghclmeaaGreatDoorRows.lean that lists a variable, with what it lists TIED to the program's text (the seventh form; the later family's looks); each row that meets fmt, with fmt's text TOLD by the authors' own Lean function (tested against real Go, not proved from fmt's source: count such statements apart). THE CARD IS WHAT COUNTS. Prove the row's statement (the work); the ties are given (YtaiopdbghclmeaaGreatDoorTie.lean); close each card by the builder's one call (the guide's Derived/Test/ToyasCard.lean, 'card_holds'). Laid BY PROGRAM, IN A SANDBOX (cutbox-door.mjs). By AI agents, Wed Nov 11 2026. No macro, syntax, notation, axiom, sorry.
-/
import Derived.Test.YtaiopdbghclmeaaGreatDoorRows
import GoSem.ClaimSeven
namespace Go.Proofs.YtaiopdbghclmeaaGreatDoor
namespace Rows

/-- THE TIED CARD OF 'latchkeylaw31.ServiceNumbers'. -/
def serviceNumbersCard : Claim7 := { stood := { row := serviceNumbersRow, standIns := [], harness := (true, "53eccc40833f4c6ad3c99accfeeb1dda850a834cd03ea38782cba4ef2fd73095"), looks := true }, kinds := [], alts := [], laidByText := true, laidKinds := [.data, .data, .widerDeep, .widerDeep, .data, .data, .data, .data, .data, .data, .sentinel, .sentinel, .data, .data, .pinned, .pinned, .pinned], laidTests := true, laidLooks := .later }
def ServiceNumbersCardSaid : Prop := Claim7.holds Tryz.pinned (.plain (OpenSpec.ofChange serviceNumbersSpec)) serviceNumbersCard

/-- THE SECOND FORM's CARD OF 'latchkeylaw31.ServiceNumbers'. -/
def serviceNumbersUptoCard : Claim7 := { stood := { row := serviceNumbersUptoRow, standIns := [], harness := (true, "53eccc40833f4c6ad3c99accfeeb1dda850a834cd03ea38782cba4ef2fd73095"), looks := true }, kinds := [], alts := [], laidByText := true, laidKinds := [.data, .data, .widerDeep, .widerDeep, .data, .data, .data, .data, .data, .data, .sentinel, .sentinel, .data, .data, .pinned, .pinned, .pinned], laidTests := true, laidLooks := .later }
def ServiceNumbersUptoCardSaid : Prop := Claim7.holds Tryz.pinned (.plain (OpenSpec.upto serviceNumbersSpec)) serviceNumbersUptoCard
end Rows
end Go.Proofs.YtaiopdbghclmeaaGreatDoor
