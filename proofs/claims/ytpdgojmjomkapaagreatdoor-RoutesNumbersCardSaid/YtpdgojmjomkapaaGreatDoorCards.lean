/-
  DERIVED. GIVEN WITH THE SEED: THE CARDS: each row of YtpdgojmjomkapaaGreatDoorRows.lean that lists a variable, with what it lists TIED to the program's text (the seventh form; the later family's looks); each row that meets fmt, with fmt's text TOLD by the authors' own Lean function (tested against real Go, not proved from fmt's source: count such statements apart). THE CARD IS WHAT COUNTS. Prove the row's statement (the work); the ties are given (YtpdgojmjomkapaaGreatDoorTie.lean); close each card by the builder's one call (the guide's Derived/Test/ToyasCard.lean, 'card_holds'). Laid BY PROGRAM, IN A SANDBOX (cutbox-door.mjs). By AI agents, Wed Nov 11 2026. No macro, syntax, notation, axiom, sorry.
-/
import Derived.Test.YtpdgojmjomkapaaGreatDoorRows
import GoSem.ClaimSeven
namespace Go.Proofs.YtpdgojmjomkapaaGreatDoor
namespace Rows

/-- THE TIED CARD OF 'latchkeylaw19.RoutesNumbers'. -/
def routesNumbersCard : Claim7 := { stood := { row := routesNumbersRow, standIns := [], harness := (true, "08a69a5d8162f64f0a5db97b2cefd4e34a606c209197416946f685e2bb309248"), looks := true }, kinds := [], alts := [], laidByText := true, laidKinds := [.data, .data, .data, .data, .data, .data, .sentinel, .sentinel, .data, .data, .pinned, .pinned, .pinned], laidTests := true, laidLooks := .later }
def RoutesNumbersCardSaid : Prop := Claim7.holds Tryz.pinned (.plain (OpenSpec.ofChange routesNumbersSpec)) routesNumbersCard

/-- THE SECOND FORM's CARD OF 'latchkeylaw19.RoutesNumbers'. -/
def routesNumbersUptoCard : Claim7 := { stood := { row := routesNumbersUptoRow, standIns := [], harness := (true, "08a69a5d8162f64f0a5db97b2cefd4e34a606c209197416946f685e2bb309248"), looks := true }, kinds := [], alts := [], laidByText := true, laidKinds := [.data, .data, .data, .data, .data, .data, .sentinel, .sentinel, .data, .data, .pinned, .pinned, .pinned], laidTests := true, laidLooks := .later }
def RoutesNumbersUptoCardSaid : Prop := Claim7.holds Tryz.pinned (.plain (OpenSpec.upto routesNumbersSpec)) routesNumbersUptoCard
end Rows
end Go.Proofs.YtpdgojmjomkapaaGreatDoor
