/-
  DERIVED. GIVEN WITH THE SEED: THE CARDS: each row of YtgimfbelgpgimaaGreatDoorRows.lean that lists a variable, with what it lists TIED to the program's text (the seventh form; the later family's looks); each row that meets fmt, with fmt's text TOLD by the authors' own Lean function (tested against real Go, not proved from fmt's source: count such statements apart). THE CARD IS WHAT COUNTS. Prove the row's statement (the work); the ties are given (YtgimfbelgpgimaaGreatDoorTie.lean); close each card by the builder's one call (the guide's Derived/Test/ToyasCard.lean, 'card_holds'). Laid BY PROGRAM, IN A SANDBOX (cutbox-door.mjs). By AI agents, Wed Nov 11 2026. No macro, syntax, notation, axiom, sorry.
-/
import Derived.Test.YtgimfbelgpgimaaGreatDoorRows
import GoSem.ClaimSeven
namespace Go.Proofs.YtgimfbelgpgimaaGreatDoor
namespace Rows

/-- THE TIED CARD OF 'latchkeylaw16.HoldsNumbers'. -/
def holdsNumbersCard : Claim7 := { stood := { row := holdsNumbersRow, standIns := [], harness := (true, "5a989a056bd89d4d734243f14c48c45fd48315f757eb6dbe86c63dc618a32f58"), looks := true }, kinds := [], alts := [], laidByText := true, laidKinds := [.data, .data, .data, .data, .data, .data, .pinned, .pinned, .sentinel, .sentinel, .pinned, .data, .data], laidTests := true, laidLooks := .later }
def HoldsNumbersCardSaid : Prop := Claim7.holds Tryz.pinned (.plain (OpenSpec.ofChange holdsNumbersSpec)) holdsNumbersCard

/-- THE SECOND FORM's CARD OF 'latchkeylaw16.HoldsNumbers'. -/
def holdsNumbersUptoCard : Claim7 := { stood := { row := holdsNumbersUptoRow, standIns := [], harness := (true, "5a989a056bd89d4d734243f14c48c45fd48315f757eb6dbe86c63dc618a32f58"), looks := true }, kinds := [], alts := [], laidByText := true, laidKinds := [.data, .data, .data, .data, .data, .data, .pinned, .pinned, .sentinel, .sentinel, .pinned, .data, .data], laidTests := true, laidLooks := .later }
def HoldsNumbersUptoCardSaid : Prop := Claim7.holds Tryz.pinned (.plain (OpenSpec.upto holdsNumbersSpec)) holdsNumbersUptoCard
end Rows
end Go.Proofs.YtgimfbelgpgimaaGreatDoor
