/-
  DERIVED. GIVEN WITH THE SEED: THE CARDS: each row of YtgnablliekgbgaaDoorRows.lean that lists a variable, with what it lists TIED to the program's text (the seventh form; the later family's looks); each row that meets fmt, with fmt's text TOLD by the authors' own Lean function (tested against real Go, not proved from fmt's source: count such statements apart). THE CARD IS WHAT COUNTS. Prove the row's statement (the work); the ties are given (YtgnablliekgbgaaDoorTie.lean); close each card by the builder's one call (the guide's Derived/Test/ToyasCard.lean, 'card_holds'). Laid BY PROGRAM, IN A SANDBOX (cutbox-door.mjs). By AI agents, Wed Nov 11 2026. No macro, syntax, notation, axiom, sorry.
-/
import Derived.Test.YtgnablliekgbgaaDoorRows
import GoSem.ClaimSeven
namespace Go.Proofs.YtgnablliekgbgaaDoor
namespace Rows

/-- THE TIED CARD OF 'gatepathlaw11.RevokeNames'. -/
def revokeNamesCard : Claim7 := { stood := { row := revokeNamesRow, standIns := [], harness := (true, "d3ea6a3c602e94a6015d59a416c8310e5860bf01f34774bffb538ada0db71e42"), looks := true }, kinds := [], alts := [], laidByText := true, laidKinds := [.data], laidTests := true, laidLooks := .later }
def RevokeNamesCardSaid : Prop := Claim7.holds Tryd.pinned (.plain (OpenSpec.ofChange revokeNamesSpec)) revokeNamesCard

/-- THE TIED CARD OF 'gatepathlaw11.RevokeExact'. -/
def revokeExactCard : Claim7 := { stood := { row := revokeExactRow, standIns := [], harness := (true, "d3ea6a3c602e94a6015d59a416c8310e5860bf01f34774bffb538ada0db71e42"), looks := true }, kinds := [], alts := [], laidByText := true, laidKinds := [.data], laidTests := true, laidLooks := .later }
def RevokeExactCardSaid : Prop := Claim7.holds Tryd.pinned (.plain (OpenSpec.ofChange revokeExactSpec)) revokeExactCard

/-- THE TIED CARD OF 'gatepathlaw11.RevokeVerifies'. -/
def revokeVerifiesCard : Claim7 := { stood := { row := revokeVerifiesRow, standIns := [], harness := (true, "d3ea6a3c602e94a6015d59a416c8310e5860bf01f34774bffb538ada0db71e42"), looks := true }, kinds := [], alts := [], laidByText := true, laidKinds := [.data], laidTests := true, laidLooks := .later }
def RevokeVerifiesCardSaid : Prop := Claim7.holds Tryd.pinned (.plain (OpenSpec.ofChange revokeVerifiesSpec)) revokeVerifiesCard

/-- THE SECOND FORM's CARD OF 'gatepathlaw11.RevokeNames'. -/
def revokeNamesUptoCard : Claim7 := { stood := { row := revokeNamesUptoRow, standIns := [], harness := (true, "d3ea6a3c602e94a6015d59a416c8310e5860bf01f34774bffb538ada0db71e42"), looks := true }, kinds := [], alts := [], laidByText := true, laidKinds := [.data], laidTests := true, laidLooks := .later }
def RevokeNamesUptoCardSaid : Prop := Claim7.holds Tryd.pinned (.plain (OpenSpec.upto revokeNamesSpec)) revokeNamesUptoCard

/-- THE SECOND FORM's CARD OF 'gatepathlaw11.RevokeExact'. -/
def revokeExactUptoCard : Claim7 := { stood := { row := revokeExactUptoRow, standIns := [], harness := (true, "d3ea6a3c602e94a6015d59a416c8310e5860bf01f34774bffb538ada0db71e42"), looks := true }, kinds := [], alts := [], laidByText := true, laidKinds := [.data], laidTests := true, laidLooks := .later }
def RevokeExactUptoCardSaid : Prop := Claim7.holds Tryd.pinned (.plain (OpenSpec.upto revokeExactSpec)) revokeExactUptoCard

/-- THE SECOND FORM's CARD OF 'gatepathlaw11.RevokeVerifies'. -/
def revokeVerifiesUptoCard : Claim7 := { stood := { row := revokeVerifiesUptoRow, standIns := [], harness := (true, "d3ea6a3c602e94a6015d59a416c8310e5860bf01f34774bffb538ada0db71e42"), looks := true }, kinds := [], alts := [], laidByText := true, laidKinds := [.data], laidTests := true, laidLooks := .later }
def RevokeVerifiesUptoCardSaid : Prop := Claim7.holds Tryd.pinned (.plain (OpenSpec.upto revokeVerifiesSpec)) revokeVerifiesUptoCard
end Rows
end Go.Proofs.YtgnablliekgbgaaDoor
