/-
  DERIVED. GIVEN WITH THE SEED: THE CARDS: each row of YtoaeklbenmlooaaDoorRows.lean that lists a variable, with what it lists TIED to the program's text (the seventh form; the later family's looks); each row that meets fmt, with fmt's text TOLD by the authors' own Lean function (tested against real Go, not proved from fmt's source: count such statements apart). THE CARD IS WHAT COUNTS. Prove the row's statement (the work); the ties are given (YtoaeklbenmlooaaDoorTie.lean); close each card by the builder's one call (the guide's Derived/Test/ToyasCard.lean, 'card_holds'). Laid BY PROGRAM, IN A SANDBOX (cutbox-door.mjs). By AI agents, Wed Nov 11 2026. No macro, syntax, notation, axiom, sorry.
-/
import Derived.Test.YtoaeklbenmlooaaDoorRows
import GoSem.ClaimSeven
namespace Go.Proofs.YtoaeklbenmlooaaDoor
namespace Rows

/-- THE TIED CARD OF 'gatepathlaw18.KeystoreScans'. -/
def keystoreScansCard : Claim7 := { stood := { row := keystoreScansRow, standIns := [], harness := (true, "8850b98444803dea32bce17ba7fe220f9a0abb001bce3153ec5690a251a4c9ba"), looks := false }, kinds := [], alts := [], laidByText := true, laidKinds := [.data], laidTests := true, laidLooks := .later }
def KeystoreScansCardSaid : Prop := Claim7.holds Tryd.pinned (.plain (OpenSpec.ofChange keystoreScansSpec)) keystoreScansCard

/-- THE TIED CARD OF 'gatepathlaw18.KeystoreSigns'. -/
def keystoreSignsCard : Claim7 := { stood := { row := keystoreSignsRow, standIns := [], harness := (true, "8850b98444803dea32bce17ba7fe220f9a0abb001bce3153ec5690a251a4c9ba"), looks := false }, kinds := [], alts := [], laidByText := true, laidKinds := [.data], laidTests := true, laidLooks := .later }
def KeystoreSignsCardSaid : Prop := Claim7.holds Tryd.pinned (.plain (OpenSpec.ofChange keystoreSignsSpec)) keystoreSignsCard

/-- THE SECOND FORM's CARD OF 'gatepathlaw18.KeystoreScans'. -/
def keystoreScansUptoCard : Claim7 := { stood := { row := keystoreScansUptoRow, standIns := [], harness := (true, "8850b98444803dea32bce17ba7fe220f9a0abb001bce3153ec5690a251a4c9ba"), looks := false }, kinds := [], alts := [], laidByText := true, laidKinds := [.data], laidTests := true, laidLooks := .later }
def KeystoreScansUptoCardSaid : Prop := Claim7.holds Tryd.pinned (.plain (OpenSpec.upto keystoreScansSpec)) keystoreScansUptoCard

/-- THE SECOND FORM's CARD OF 'gatepathlaw18.KeystoreSigns'. -/
def keystoreSignsUptoCard : Claim7 := { stood := { row := keystoreSignsUptoRow, standIns := [], harness := (true, "8850b98444803dea32bce17ba7fe220f9a0abb001bce3153ec5690a251a4c9ba"), looks := false }, kinds := [], alts := [], laidByText := true, laidKinds := [.data], laidTests := true, laidLooks := .later }
def KeystoreSignsUptoCardSaid : Prop := Claim7.holds Tryd.pinned (.plain (OpenSpec.upto keystoreSignsSpec)) keystoreSignsUptoCard
end Rows
end Go.Proofs.YtoaeklbenmlooaaDoor
