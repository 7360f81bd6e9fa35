/-
  DERIVED. GIVEN WITH THE SEED: THE CARDS: each row of YtfppaagdnpoemaaDoorRows.lean that lists a variable, with what it lists TIED to the program's text (the seventh form; the later family's looks); each row that meets fmt, with fmt's text TOLD by the authors' own Lean function (tested against real Go, not proved from fmt's source: count such statements apart). THE CARD IS WHAT COUNTS. Prove the row's statement (the work); the ties are given (YtfppaagdnpoemaaDoorTie.lean); close each card by the builder's one call (the guide's Derived/Test/ToyasCard.lean, 'card_holds'). Laid BY PROGRAM, IN A SANDBOX (cutbox-door.mjs). By AI agents, Wed Nov 11 2026. No macro, syntax, notation, axiom, sorry.
-/
import Derived.Test.YtfppaagdnpoemaaDoorRows
import GoSem.ClaimSeven
namespace Go.Proofs.YtfppaagdnpoemaaDoor
namespace Rows

/-- THE TIED CARD OF 'gatepathlaw06.OnetimeRecovers'. -/
def onetimeRecoversCard : Claim7 := { stood := { row := onetimeRecoversRow, standIns := [], harness := (true, "9159dea4fd5a0cb133a8364f593c112eaf8f548d3ce4042bab1669da2003cfc0"), looks := false }, kinds := [], alts := [], laidByText := true, laidKinds := [.data], laidTests := true, laidLooks := .later }
def OnetimeRecoversCardSaid : Prop := Claim7.holds Tryd.pinned (.plain (OpenSpec.ofChange onetimeRecoversSpec)) onetimeRecoversCard

/-- THE TIED CARD OF 'gatepathlaw06.OnetimeSigns'. -/
def onetimeSignsCard : Claim7 := { stood := { row := onetimeSignsRow, standIns := [], harness := (true, "9159dea4fd5a0cb133a8364f593c112eaf8f548d3ce4042bab1669da2003cfc0"), looks := false }, kinds := [], alts := [], laidByText := true, laidKinds := [.data], laidTests := true, laidLooks := .later }
def OnetimeSignsCardSaid : Prop := Claim7.holds Tryd.pinned (.plain (OpenSpec.ofChange onetimeSignsSpec)) onetimeSignsCard

/-- THE TIED CARD OF 'gatepathlaw06.OnetimeNames'. -/
def onetimeNamesCard : Claim7 := { stood := { row := onetimeNamesRow, standIns := [], harness := (true, "9159dea4fd5a0cb133a8364f593c112eaf8f548d3ce4042bab1669da2003cfc0"), looks := false }, kinds := [], alts := [], laidByText := true, laidKinds := [.data], laidTests := true, laidLooks := .later }
def OnetimeNamesCardSaid : Prop := Claim7.holds Tryd.pinned (.plain (OpenSpec.ofChange onetimeNamesSpec)) onetimeNamesCard

/-- THE TIED CARD OF 'gatepathlaw06.OnetimeVerifies'. -/
def onetimeVerifiesCard : Claim7 := { stood := { row := onetimeVerifiesRow, standIns := [], harness := (true, "9159dea4fd5a0cb133a8364f593c112eaf8f548d3ce4042bab1669da2003cfc0"), looks := false }, kinds := [], alts := [], laidByText := true, laidKinds := [.data], laidTests := true, laidLooks := .later }
def OnetimeVerifiesCardSaid : Prop := Claim7.holds Tryd.pinned (.plain (OpenSpec.ofChange onetimeVerifiesSpec)) onetimeVerifiesCard

/-- THE TIED CARD OF 'gatepathlaw06.OnetimeGuards'. -/
def onetimeGuardsCard : Claim7 := { stood := { row := onetimeGuardsRow, standIns := [], harness := (true, "9159dea4fd5a0cb133a8364f593c112eaf8f548d3ce4042bab1669da2003cfc0"), looks := false }, kinds := [], alts := [], laidByText := true, laidKinds := [.data], laidTests := true, laidLooks := .later }
def OnetimeGuardsCardSaid : Prop := Claim7.holds Tryd.pinned (.plain (OpenSpec.ofChange onetimeGuardsSpec)) onetimeGuardsCard

/-- THE TIED CARD OF 'gatepathlaw06.OnetimeClimbs'. -/
def onetimeClimbsCard : Claim7 := { stood := { row := onetimeClimbsRow, standIns := [], harness := (true, "9159dea4fd5a0cb133a8364f593c112eaf8f548d3ce4042bab1669da2003cfc0"), looks := false }, kinds := [], alts := [], laidByText := true, laidKinds := [.data], laidTests := true, laidLooks := .later }
def OnetimeClimbsCardSaid : Prop := Claim7.holds Tryd.pinned (.plain (OpenSpec.ofChange onetimeClimbsSpec)) onetimeClimbsCard

/-- THE TIED CARD OF 'gatepathlaw06.OnetimeEnds'. -/
def onetimeEndsCard : Claim7 := { stood := { row := onetimeEndsRow, standIns := [], harness := (true, "9159dea4fd5a0cb133a8364f593c112eaf8f548d3ce4042bab1669da2003cfc0"), looks := false }, kinds := [], alts := [], laidByText := true, laidKinds := [.data], laidTests := true, laidLooks := .later }
def OnetimeEndsCardSaid : Prop := Claim7.holds Tryd.pinned (.plain (OpenSpec.ofChange onetimeEndsSpec)) onetimeEndsCard

/-- THE SECOND FORM's CARD OF 'gatepathlaw06.OnetimeRecovers'. -/
def onetimeRecoversUptoCard : Claim7 := { stood := { row := onetimeRecoversUptoRow, standIns := [], harness := (true, "9159dea4fd5a0cb133a8364f593c112eaf8f548d3ce4042bab1669da2003cfc0"), looks := false }, kinds := [], alts := [], laidByText := true, laidKinds := [.data], laidTests := true, laidLooks := .later }
def OnetimeRecoversUptoCardSaid : Prop := Claim7.holds Tryd.pinned (.plain (OpenSpec.upto onetimeRecoversSpec)) onetimeRecoversUptoCard

/-- THE SECOND FORM's CARD OF 'gatepathlaw06.OnetimeSigns'. -/
def onetimeSignsUptoCard : Claim7 := { stood := { row := onetimeSignsUptoRow, standIns := [], harness := (true, "9159dea4fd5a0cb133a8364f593c112eaf8f548d3ce4042bab1669da2003cfc0"), looks := false }, kinds := [], alts := [], laidByText := true, laidKinds := [.data], laidTests := true, laidLooks := .later }
def OnetimeSignsUptoCardSaid : Prop := Claim7.holds Tryd.pinned (.plain (OpenSpec.upto onetimeSignsSpec)) onetimeSignsUptoCard

/-- THE SECOND FORM's CARD OF 'gatepathlaw06.OnetimeNames'. -/
def onetimeNamesUptoCard : Claim7 := { stood := { row := onetimeNamesUptoRow, standIns := [], harness := (true, "9159dea4fd5a0cb133a8364f593c112eaf8f548d3ce4042bab1669da2003cfc0"), looks := false }, kinds := [], alts := [], laidByText := true, laidKinds := [.data], laidTests := true, laidLooks := .later }
def OnetimeNamesUptoCardSaid : Prop := Claim7.holds Tryd.pinned (.plain (OpenSpec.upto onetimeNamesSpec)) onetimeNamesUptoCard

/-- THE SECOND FORM's CARD OF 'gatepathlaw06.OnetimeVerifies'. -/
def onetimeVerifiesUptoCard : Claim7 := { stood := { row := onetimeVerifiesUptoRow, standIns := [], harness := (true, "9159dea4fd5a0cb133a8364f593c112eaf8f548d3ce4042bab1669da2003cfc0"), looks := false }, kinds := [], alts := [], laidByText := true, laidKinds := [.data], laidTests := true, laidLooks := .later }
def OnetimeVerifiesUptoCardSaid : Prop := Claim7.holds Tryd.pinned (.plain (OpenSpec.upto onetimeVerifiesSpec)) onetimeVerifiesUptoCard

/-- THE SECOND FORM's CARD OF 'gatepathlaw06.OnetimeGuards'. -/
def onetimeGuardsUptoCard : Claim7 := { stood := { row := onetimeGuardsUptoRow, standIns := [], harness := (true, "9159dea4fd5a0cb133a8364f593c112eaf8f548d3ce4042bab1669da2003cfc0"), looks := false }, kinds := [], alts := [], laidByText := true, laidKinds := [.data], laidTests := true, laidLooks := .later }
def OnetimeGuardsUptoCardSaid : Prop := Claim7.holds Tryd.pinned (.plain (OpenSpec.upto onetimeGuardsSpec)) onetimeGuardsUptoCard

/-- THE SECOND FORM's CARD OF 'gatepathlaw06.OnetimeClimbs'. -/
def onetimeClimbsUptoCard : Claim7 := { stood := { row := onetimeClimbsUptoRow, standIns := [], harness := (true, "9159dea4fd5a0cb133a8364f593c112eaf8f548d3ce4042bab1669da2003cfc0"), looks := false }, kinds := [], alts := [], laidByText := true, laidKinds := [.data], laidTests := true, laidLooks := .later }
def OnetimeClimbsUptoCardSaid : Prop := Claim7.holds Tryd.pinned (.plain (OpenSpec.upto onetimeClimbsSpec)) onetimeClimbsUptoCard

/-- THE SECOND FORM's CARD OF 'gatepathlaw06.OnetimeEnds'. -/
def onetimeEndsUptoCard : Claim7 := { stood := { row := onetimeEndsUptoRow, standIns := [], harness := (true, "9159dea4fd5a0cb133a8364f593c112eaf8f548d3ce4042bab1669da2003cfc0"), looks := false }, kinds := [], alts := [], laidByText := true, laidKinds := [.data], laidTests := true, laidLooks := .later }
def OnetimeEndsUptoCardSaid : Prop := Claim7.holds Tryd.pinned (.plain (OpenSpec.upto onetimeEndsSpec)) onetimeEndsUptoCard
end Rows
end Go.Proofs.YtfppaagdnpoemaaDoor
