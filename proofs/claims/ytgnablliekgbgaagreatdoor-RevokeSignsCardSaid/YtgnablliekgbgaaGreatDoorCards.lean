/-
  DERIVED. GIVEN WITH THE SEED: THE CARDS: each row of YtgnablliekgbgaaGreatDoorRows.lean that lists a variable, with what it lists TIED to the program's text (the seventh form; the later family's looks); each row that meets fmt, with fmt's text TOLD by the authors' own Lean function (tested against real Go, not proved from fmt's source: count such statements apart). THE CARD IS WHAT COUNTS. Prove the row's statement (the work); the ties are given (YtgnablliekgbgaaGreatDoorTie.lean); close each card by the builder's one call (the guide's Derived/Test/ToyasCard.lean, 'card_holds'). Laid BY PROGRAM, IN A SANDBOX (cutbox-door.mjs). By AI agents, Wed Nov 11 2026. No macro, syntax, notation, axiom, sorry.
-/
import Derived.Test.YtgnablliekgbgaaGreatDoorRows
import GoSem.ClaimSeven
namespace Go.Proofs.YtgnablliekgbgaaGreatDoor
namespace Rows

/-- THE TIED CARD OF 'gatepathlaw11.RevokeSigns'. -/
def revokeSignsCard : Claim7 := { stood := { row := revokeSignsRow, standIns := [], harness := (true, "25014fbc106a07de6494311e4498b59933792ac1874755ce74ba68720a0e2af4"), looks := false }, kinds := [], alts := [], laidByText := true, laidKinds := [.data], laidTests := true, laidLooks := .later }
def RevokeSignsCardSaid : Prop := Claim7.holds Tryz.pinned (.plain (OpenSpec.ofChange revokeSignsSpec)) revokeSignsCard

/-- THE SECOND FORM's CARD OF 'gatepathlaw11.RevokeSigns'. -/
def revokeSignsUptoCard : Claim7 := { stood := { row := revokeSignsUptoRow, standIns := [], harness := (true, "25014fbc106a07de6494311e4498b59933792ac1874755ce74ba68720a0e2af4"), looks := false }, kinds := [], alts := [], laidByText := true, laidKinds := [.data], laidTests := true, laidLooks := .later }
def RevokeSignsUptoCardSaid : Prop := Claim7.holds Tryz.pinned (.plain (OpenSpec.upto revokeSignsSpec)) revokeSignsUptoCard
end Rows
end Go.Proofs.YtgnablliekgbgaaGreatDoor
