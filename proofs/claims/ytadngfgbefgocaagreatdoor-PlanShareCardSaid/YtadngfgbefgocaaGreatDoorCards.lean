/-
  DERIVED. GIVEN WITH THE SEED: THE CARDS: each row of YtadngfgbefgocaaGreatDoorRows.lean that lists a variable, with what it lists TIED to the program's text (the seventh form; the later family's looks); each row that meets fmt, with fmt's text TOLD by the authors' own Lean function (tested against real Go, not proved from fmt's source: count such statements apart). THE CARD IS WHAT COUNTS. Prove the row's statement (the work); the ties are given (YtadngfgbefgocaaGreatDoorTie.lean); close each card by the builder's one call (the guide's Derived/Test/ToyasCard.lean, 'card_holds'). Laid BY PROGRAM, IN A SANDBOX (cutbox-door.mjs). By AI agents, Wed Nov 11 2026. No macro, syntax, notation, axiom, sorry.
-/
import Derived.Test.YtadngfgbefgocaaGreatDoorRows
import GoSem.ClaimSeven
namespace Go.Proofs.YtadngfgbefgocaaGreatDoor
namespace Rows

/-- THE TIED CARD OF 'latchkeylaw24.PlanShare'. -/
def planShareCard : Claim7 := { stood := { row := planShareRow, standIns := [], harness := (true, "bc5f886da8e1ff87ac9c68521fc49fb353ddb068bdf3bbae1dc193fa8ee05670"), looks := true }, kinds := [], alts := [], laidByText := true, laidKinds := [.data, .data, .widerDeep, .widerDeep, .data, .data, .data, .data, .data, .data, .sentinel, .sentinel, .data, .data, .pinned, .pinned, .pinned], laidTests := true, laidLooks := .later }
def PlanShareCardSaid : Prop := Claim7.holds Tryz.pinned (.plain (OpenSpec.ofChange planShareSpec)) planShareCard

/-- THE SECOND FORM's CARD OF 'latchkeylaw24.PlanShare'. -/
def planShareUptoCard : Claim7 := { stood := { row := planShareUptoRow, standIns := [], harness := (true, "bc5f886da8e1ff87ac9c68521fc49fb353ddb068bdf3bbae1dc193fa8ee05670"), looks := true }, kinds := [], alts := [], laidByText := true, laidKinds := [.data, .data, .widerDeep, .widerDeep, .data, .data, .data, .data, .data, .data, .sentinel, .sentinel, .data, .data, .pinned, .pinned, .pinned], laidTests := true, laidLooks := .later }
def PlanShareUptoCardSaid : Prop := Claim7.holds Tryz.pinned (.plain (OpenSpec.upto planShareSpec)) planShareUptoCard
end Rows
end Go.Proofs.YtadngfgbefgocaaGreatDoor
