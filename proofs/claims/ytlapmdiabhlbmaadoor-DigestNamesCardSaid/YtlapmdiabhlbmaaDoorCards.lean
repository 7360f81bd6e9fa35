/-
  DERIVED. GIVEN WITH THE SEED: THE CARDS: each row of YtlapmdiabhlbmaaDoorRows.lean that lists a variable, with what it lists TIED to the program's text (the seventh form; the later family's looks); each row that meets fmt, with fmt's text TOLD by the authors' own Lean function (tested against real Go, not proved from fmt's source: count such statements apart). THE CARD IS WHAT COUNTS. Prove the row's statement (the work); the ties are given (YtlapmdiabhlbmaaDoorTie.lean); close each card by the builder's one call (the guide's Derived/Test/ToyasCard.lean, 'card_holds'). Laid BY PROGRAM, IN A SANDBOX (cutbox-door.mjs). By AI agents, Wed Nov 11 2026. No macro, syntax, notation, axiom, sorry.
-/
import Derived.Test.YtlapmdiabhlbmaaDoorRows
import GoSem.ClaimSeven
namespace Go.Proofs.YtlapmdiabhlbmaaDoor
namespace Rows

/-- THE TIED CARD OF 'gatepathlaw05.DigestSums'. -/
def digestSumsCard : Claim7 := { stood := { row := digestSumsRow, standIns := [], harness := (true, "d0c8ade01ae193dd27b7ddf6edd27eb2b2422499e47ba8ce64379f20194f6cbe"), looks := false }, kinds := [], alts := [], laidByText := true, laidKinds := [.data], laidTests := true, laidLooks := .later }
def DigestSumsCardSaid : Prop := Claim7.holds Tryd.pinned (.plain (OpenSpec.ofChange digestSumsSpec)) digestSumsCard

/-- THE TIED CARD OF 'gatepathlaw05.DigestJoins'. -/
def digestJoinsCard : Claim7 := { stood := { row := digestJoinsRow, standIns := [], harness := (true, "d0c8ade01ae193dd27b7ddf6edd27eb2b2422499e47ba8ce64379f20194f6cbe"), looks := false }, kinds := [], alts := [], laidByText := true, laidKinds := [.data], laidTests := true, laidLooks := .later }
def DigestJoinsCardSaid : Prop := Claim7.holds Tryd.pinned (.plain (OpenSpec.ofChange digestJoinsSpec)) digestJoinsCard

/-- THE TIED CARD OF 'gatepathlaw05.DigestLengths'. -/
def digestLengthsCard : Claim7 := { stood := { row := digestLengthsRow, standIns := [], harness := (true, "d0c8ade01ae193dd27b7ddf6edd27eb2b2422499e47ba8ce64379f20194f6cbe"), looks := false }, kinds := [], alts := [], laidByText := true, laidKinds := [.data], laidTests := true, laidLooks := .later }
def DigestLengthsCardSaid : Prop := Claim7.holds Tryd.pinned (.plain (OpenSpec.ofChange digestLengthsSpec)) digestLengthsCard

/-- THE TIED CARD OF 'gatepathlaw05.DigestShorts'. -/
def digestShortsCard : Claim7 := { stood := { row := digestShortsRow, standIns := [], harness := (true, "d0c8ade01ae193dd27b7ddf6edd27eb2b2422499e47ba8ce64379f20194f6cbe"), looks := false }, kinds := [], alts := [], laidByText := true, laidKinds := [.data], laidTests := true, laidLooks := .later }
def DigestShortsCardSaid : Prop := Claim7.holds Tryd.pinned (.plain (OpenSpec.ofChange digestShortsSpec)) digestShortsCard

/-- THE TIED CARD OF 'gatepathlaw05.DigestTexts'. -/
def digestTextsCard : Claim7 := { stood := { row := digestTextsRow, standIns := [], harness := (true, "d0c8ade01ae193dd27b7ddf6edd27eb2b2422499e47ba8ce64379f20194f6cbe"), looks := false }, kinds := [], alts := [], laidByText := true, laidKinds := [.data, .sentinel, .pinned], laidTests := true, laidLooks := .later }
def DigestTextsCardSaid : Prop := Claim7.holds Tryd.pinned (.plain (OpenSpec.ofChange digestTextsSpec)) digestTextsCard

/-- THE TIED CARD OF 'gatepathlaw05.DigestNames'. -/
def digestNamesCard : Claim7 := { stood := { row := digestNamesRow, standIns := [], harness := (true, "d0c8ade01ae193dd27b7ddf6edd27eb2b2422499e47ba8ce64379f20194f6cbe"), looks := false }, kinds := [], alts := [], laidByText := true, laidKinds := [.data, .sentinel, .data, .pinned], laidTests := true, laidLooks := .later }
def DigestNamesCardSaid : Prop := Claim7.holds Tryd.pinned (.plain (OpenSpec.ofChange digestNamesSpec)) digestNamesCard

/-- THE TIED CARD OF 'gatepathlaw05.DigestInverse'. -/
def digestInverseCard : Claim7 := { stood := { row := digestInverseRow, standIns := [], harness := (true, "d0c8ade01ae193dd27b7ddf6edd27eb2b2422499e47ba8ce64379f20194f6cbe"), looks := false }, kinds := [], alts := [], laidByText := true, laidKinds := [.data, .sentinel, .data, .pinned], laidTests := true, laidLooks := .later }
def DigestInverseCardSaid : Prop := Claim7.holds Tryd.pinned (.plain (OpenSpec.ofChange digestInverseSpec)) digestInverseCard

/-- THE SECOND FORM's CARD OF 'gatepathlaw05.DigestSums'. -/
def digestSumsUptoCard : Claim7 := { stood := { row := digestSumsUptoRow, standIns := [], harness := (true, "d0c8ade01ae193dd27b7ddf6edd27eb2b2422499e47ba8ce64379f20194f6cbe"), looks := false }, kinds := [], alts := [], laidByText := true, laidKinds := [.data], laidTests := true, laidLooks := .later }
def DigestSumsUptoCardSaid : Prop := Claim7.holds Tryd.pinned (.plain (OpenSpec.upto digestSumsSpec)) digestSumsUptoCard

/-- THE SECOND FORM's CARD OF 'gatepathlaw05.DigestJoins'. -/
def digestJoinsUptoCard : Claim7 := { stood := { row := digestJoinsUptoRow, standIns := [], harness := (true, "d0c8ade01ae193dd27b7ddf6edd27eb2b2422499e47ba8ce64379f20194f6cbe"), looks := false }, kinds := [], alts := [], laidByText := true, laidKinds := [.data], laidTests := true, laidLooks := .later }
def DigestJoinsUptoCardSaid : Prop := Claim7.holds Tryd.pinned (.plain (OpenSpec.upto digestJoinsSpec)) digestJoinsUptoCard

/-- THE SECOND FORM's CARD OF 'gatepathlaw05.DigestLengths'. -/
def digestLengthsUptoCard : Claim7 := { stood := { row := digestLengthsUptoRow, standIns := [], harness := (true, "d0c8ade01ae193dd27b7ddf6edd27eb2b2422499e47ba8ce64379f20194f6cbe"), looks := false }, kinds := [], alts := [], laidByText := true, laidKinds := [.data], laidTests := true, laidLooks := .later }
def DigestLengthsUptoCardSaid : Prop := Claim7.holds Tryd.pinned (.plain (OpenSpec.upto digestLengthsSpec)) digestLengthsUptoCard

/-- THE SECOND FORM's CARD OF 'gatepathlaw05.DigestShorts'. -/
def digestShortsUptoCard : Claim7 := { stood := { row := digestShortsUptoRow, standIns := [], harness := (true, "d0c8ade01ae193dd27b7ddf6edd27eb2b2422499e47ba8ce64379f20194f6cbe"), looks := false }, kinds := [], alts := [], laidByText := true, laidKinds := [.data], laidTests := true, laidLooks := .later }
def DigestShortsUptoCardSaid : Prop := Claim7.holds Tryd.pinned (.plain (OpenSpec.upto digestShortsSpec)) digestShortsUptoCard

/-- THE SECOND FORM's CARD OF 'gatepathlaw05.DigestTexts'. -/
def digestTextsUptoCard : Claim7 := { stood := { row := digestTextsUptoRow, standIns := [], harness := (true, "d0c8ade01ae193dd27b7ddf6edd27eb2b2422499e47ba8ce64379f20194f6cbe"), looks := false }, kinds := [], alts := [], laidByText := true, laidKinds := [.data, .sentinel, .pinned], laidTests := true, laidLooks := .later }
def DigestTextsUptoCardSaid : Prop := Claim7.holds Tryd.pinned (.plain (OpenSpec.upto digestTextsSpec)) digestTextsUptoCard

/-- THE SECOND FORM's CARD OF 'gatepathlaw05.DigestNames'. -/
def digestNamesUptoCard : Claim7 := { stood := { row := digestNamesUptoRow, standIns := [], harness := (true, "d0c8ade01ae193dd27b7ddf6edd27eb2b2422499e47ba8ce64379f20194f6cbe"), looks := false }, kinds := [], alts := [], laidByText := true, laidKinds := [.data, .sentinel, .data, .pinned], laidTests := true, laidLooks := .later }
def DigestNamesUptoCardSaid : Prop := Claim7.holds Tryd.pinned (.plain (OpenSpec.upto digestNamesSpec)) digestNamesUptoCard

/-- THE SECOND FORM's CARD OF 'gatepathlaw05.DigestInverse'. -/
def digestInverseUptoCard : Claim7 := { stood := { row := digestInverseUptoRow, standIns := [], harness := (true, "d0c8ade01ae193dd27b7ddf6edd27eb2b2422499e47ba8ce64379f20194f6cbe"), looks := false }, kinds := [], alts := [], laidByText := true, laidKinds := [.data, .sentinel, .data, .pinned], laidTests := true, laidLooks := .later }
def DigestInverseUptoCardSaid : Prop := Claim7.holds Tryd.pinned (.plain (OpenSpec.upto digestInverseSpec)) digestInverseUptoCard
end Rows
end Go.Proofs.YtlapmdiabhlbmaaDoor
