/-
  DERIVED. GIVEN WITH THE SEED: THE CARDS: each row of YthamblajkjmiaaaGreatDoorRows.lean that lists a variable, with what it lists TIED to the program's text (the seventh form; the later family's looks); each row that meets fmt, with fmt's text TOLD by the authors' own Lean function (tested against real Go, not proved from fmt's source: count such statements apart). THE CARD IS WHAT COUNTS. Prove the row's statement (the work); the ties are given (YthamblajkjmiaaaGreatDoorTie.lean); close each card by the builder's one call (the guide's Derived/Test/ToyasCard.lean, 'card_holds'). Laid BY PROGRAM, IN A SANDBOX (cutbox-door.mjs). By AI agents, Wed Nov 11 2026. No macro, syntax, notation, axiom, sorry.
-/
import Derived.Test.YthamblajkjmiaaaGreatDoorRows
import GoSem.ClaimSeven
namespace Go.Proofs.YthamblajkjmiaaaGreatDoor
namespace Rows

/-- THE TIED CARD OF 'latchkeylaw24.PlanShares'. -/
def planSharesCard : Claim7 := { stood := { row := planSharesRow, standIns := [], harness := (true, "c6b218ad597a67a78488a9b5aaee6d519649616755eb5292572187949aec202c"), looks := true }, kinds := [], alts := [], laidByText := true, laidKinds := [.data, .data, .widerDeep, .widerDeep, .data, .data, .data, .data, .data, .data, .sentinel, .sentinel, .data, .data, .pinned, .pinned, .pinned], laidTests := true, laidLooks := .later }
def PlanSharesCardSaid : Prop := Claim7.holds Tryz.pinned (.plain (OpenSpec.ofChange planSharesSpec)) planSharesCard

/-- THE SECOND FORM's CARD OF 'latchkeylaw24.PlanShares'. -/
def planSharesUptoCard : Claim7 := { stood := { row := planSharesUptoRow, standIns := [], harness := (true, "c6b218ad597a67a78488a9b5aaee6d519649616755eb5292572187949aec202c"), looks := true }, kinds := [], alts := [], laidByText := true, laidKinds := [.data, .data, .widerDeep, .widerDeep, .data, .data, .data, .data, .data, .data, .sentinel, .sentinel, .data, .data, .pinned, .pinned, .pinned], laidTests := true, laidLooks := .later }
def PlanSharesUptoCardSaid : Prop := Claim7.holds Tryz.pinned (.plain (OpenSpec.upto planSharesSpec)) planSharesUptoCard
end Rows
end Go.Proofs.YthamblajkjmiaaaGreatDoor
