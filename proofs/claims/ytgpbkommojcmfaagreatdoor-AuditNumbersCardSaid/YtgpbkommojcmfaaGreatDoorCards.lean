/-
  DERIVED. GIVEN WITH THE SEED: THE CARDS: each row of YtgpbkommojcmfaaGreatDoorRows.lean that lists a variable, with what it lists TIED to the program's text (the seventh form; the later family's looks); each row that meets fmt, with fmt's text TOLD by the authors' own Lean function (tested against real Go, not proved from fmt's source: count such statements apart). THE CARD IS WHAT COUNTS. Prove the row's statement (the work); the ties are given (YtgpbkommojcmfaaGreatDoorTie.lean); close each card by the builder's one call (the guide's Derived/Test/ToyasCard.lean, 'card_holds'). Laid BY PROGRAM, IN A SANDBOX (cutbox-door.mjs). By AI agents, Wed Nov 11 2026. No macro, syntax, notation, axiom, sorry.
-/
import Derived.Test.YtgpbkommojcmfaaGreatDoorRows
import GoSem.ClaimSeven
namespace Go.Proofs.YtgpbkommojcmfaaGreatDoor
namespace Rows

/-- THE TIED CARD OF 'latchkeylaw28.AuditNumbers'. -/
def auditNumbersCard : Claim7 := { stood := { row := auditNumbersRow, standIns := [], harness := (true, "760bb08504da599a57735e19f8629c5caaebd52aae2692f5d0b68defa8821a6e"), looks := true }, kinds := [], alts := [], laidByText := true, laidKinds := [.data, .data, .data, .data, .data, .data, .data, .pinned, .pinned, .sentinel, .sentinel, .pinned, .data], laidTests := true, laidLooks := .later }
def AuditNumbersCardSaid : Prop := Claim7.holds Tryz.pinned (.plain (OpenSpec.ofChange auditNumbersSpec)) auditNumbersCard

/-- THE SECOND FORM's CARD OF 'latchkeylaw28.AuditNumbers'. -/
def auditNumbersUptoCard : Claim7 := { stood := { row := auditNumbersUptoRow, standIns := [], harness := (true, "760bb08504da599a57735e19f8629c5caaebd52aae2692f5d0b68defa8821a6e"), looks := true }, kinds := [], alts := [], laidByText := true, laidKinds := [.data, .data, .data, .data, .data, .data, .data, .pinned, .pinned, .sentinel, .sentinel, .pinned, .data], laidTests := true, laidLooks := .later }
def AuditNumbersUptoCardSaid : Prop := Claim7.holds Tryz.pinned (.plain (OpenSpec.upto auditNumbersSpec)) auditNumbersUptoCard
end Rows
end Go.Proofs.YtgpbkommojcmfaaGreatDoor
