/-
  DERIVED. GIVEN WITH THE SEED: THE CARDS: each row of YtjpfhkjmjnjggaaDoorRows.lean that lists a variable, with what it lists TIED to the program's text (the seventh form; the later family's looks); each row that meets fmt, with fmt's text TOLD by the authors' own Lean function (tested against real Go, not proved from fmt's source: count such statements apart). THE CARD IS WHAT COUNTS. Prove the row's statement (the work); the ties are given (YtjpfhkjmjnjggaaDoorTie.lean); close each card by the builder's one call (the guide's Derived/Test/ToyasCard.lean, 'card_holds'). Laid BY PROGRAM, IN A SANDBOX (cutbox-door.mjs). By AI agents, Wed Nov 11 2026. No macro, syntax, notation, axiom, sorry.
-/
import Derived.Test.YtjpfhkjmjnjggaaDoorRows
import GoSem.ClaimSeven
namespace Go.Proofs.YtjpfhkjmjnjggaaDoor
namespace Rows

/-- THE TIED CARD OF 'gatepathlaw42.HopsShapes'. -/
def hopsShapesCard : Claim7 := { stood := { row := hopsShapesRow, standIns := [], harness := (true, "5bdcfe1343205e0d5fc59528b7e8e8fea6a63a390b557bdba4ee0b75cd251552"), looks := false }, kinds := [], alts := [], laidByText := true, laidKinds := [.data], laidTests := true, laidLooks := .later }
def HopsShapesCardSaid : Prop := Claim7.holds Tryd.pinned (.plain (OpenSpec.ofChange hopsShapesSpec)) hopsShapesCard

/-- THE TIED CARD OF 'gatepathlaw42.HopsTells'. -/
def hopsTellsCard : Claim7 := { stood := { row := hopsTellsRow, standIns := [], harness := (true, "5bdcfe1343205e0d5fc59528b7e8e8fea6a63a390b557bdba4ee0b75cd251552"), looks := false }, kinds := [], alts := [], laidByText := true, laidKinds := [.data], laidTests := true, laidLooks := .later }
def HopsTellsCardSaid : Prop := Claim7.holds Tryd.pinned (.plain (OpenSpec.ofChange hopsTellsSpec)) hopsTellsCard

/-- THE TIED CARD OF 'gatepathlaw42.HopsSigns'. -/
def hopsSignsCard : Claim7 := { stood := { row := hopsSignsRow, standIns := [], harness := (true, "5bdcfe1343205e0d5fc59528b7e8e8fea6a63a390b557bdba4ee0b75cd251552"), looks := false }, kinds := [], alts := [], laidByText := true, laidKinds := [.data], laidTests := true, laidLooks := .later }
def HopsSignsCardSaid : Prop := Claim7.holds Tryd.pinned (.plain (OpenSpec.ofChange hopsSignsSpec)) hopsSignsCard

/-- THE TIED CARD OF 'gatepathlaw42.HopsNames'. -/
def hopsNamesCard : Claim7 := { stood := { row := hopsNamesRow, standIns := [], harness := (true, "5bdcfe1343205e0d5fc59528b7e8e8fea6a63a390b557bdba4ee0b75cd251552"), looks := false }, kinds := [], alts := [], laidByText := true, laidKinds := [.data], laidTests := true, laidLooks := .later }
def HopsNamesCardSaid : Prop := Claim7.holds Tryd.pinned (.plain (OpenSpec.ofChange hopsNamesSpec)) hopsNamesCard

/-- THE TIED CARD OF 'gatepathlaw42.HopsExact'. -/
def hopsExactCard : Claim7 := { stood := { row := hopsExactRow, standIns := [], harness := (true, "5bdcfe1343205e0d5fc59528b7e8e8fea6a63a390b557bdba4ee0b75cd251552"), looks := false }, kinds := [], alts := [], laidByText := true, laidKinds := [.data], laidTests := true, laidLooks := .later }
def HopsExactCardSaid : Prop := Claim7.holds Tryd.pinned (.plain (OpenSpec.ofChange hopsExactSpec)) hopsExactCard

/-- THE TIED CARD OF 'gatepathlaw42.HopsChain'. -/
def hopsChainCard : Claim7 := { stood := { row := hopsChainRow, standIns := [], harness := (true, "5bdcfe1343205e0d5fc59528b7e8e8fea6a63a390b557bdba4ee0b75cd251552"), looks := false }, kinds := [], alts := [], laidByText := true, laidKinds := [.data], laidTests := true, laidLooks := .later }
def HopsChainCardSaid : Prop := Claim7.holds Tryd.pinned (.plain (OpenSpec.ofChange hopsChainSpec)) hopsChainCard

/-- THE TIED CARD OF 'gatepathlaw42.HopsMore'. -/
def hopsMoreCard : Claim7 := { stood := { row := hopsMoreRow, standIns := [], harness := (true, "5bdcfe1343205e0d5fc59528b7e8e8fea6a63a390b557bdba4ee0b75cd251552"), looks := false }, kinds := [], alts := [], laidByText := true, laidKinds := [.data], laidTests := true, laidLooks := .later }
def HopsMoreCardSaid : Prop := Claim7.holds Tryd.pinned (.plain (OpenSpec.ofChange hopsMoreSpec)) hopsMoreCard

/-- THE TIED CARD OF 'gatepathlaw42.HopsDiffers'. -/
def hopsDiffersCard : Claim7 := { stood := { row := hopsDiffersRow, standIns := [], harness := (true, "5bdcfe1343205e0d5fc59528b7e8e8fea6a63a390b557bdba4ee0b75cd251552"), looks := false }, kinds := [], alts := [], laidByText := true, laidKinds := [.data], laidTests := true, laidLooks := .later }
def HopsDiffersCardSaid : Prop := Claim7.holds Tryd.pinned (.plain (OpenSpec.ofChange hopsDiffersSpec)) hopsDiffersCard

/-- THE SECOND FORM's CARD OF 'gatepathlaw42.HopsShapes'. -/
def hopsShapesUptoCard : Claim7 := { stood := { row := hopsShapesUptoRow, standIns := [], harness := (true, "5bdcfe1343205e0d5fc59528b7e8e8fea6a63a390b557bdba4ee0b75cd251552"), looks := false }, kinds := [], alts := [], laidByText := true, laidKinds := [.data], laidTests := true, laidLooks := .later }
def HopsShapesUptoCardSaid : Prop := Claim7.holds Tryd.pinned (.plain (OpenSpec.upto hopsShapesSpec)) hopsShapesUptoCard

/-- THE SECOND FORM's CARD OF 'gatepathlaw42.HopsTells'. -/
def hopsTellsUptoCard : Claim7 := { stood := { row := hopsTellsUptoRow, standIns := [], harness := (true, "5bdcfe1343205e0d5fc59528b7e8e8fea6a63a390b557bdba4ee0b75cd251552"), looks := false }, kinds := [], alts := [], laidByText := true, laidKinds := [.data], laidTests := true, laidLooks := .later }
def HopsTellsUptoCardSaid : Prop := Claim7.holds Tryd.pinned (.plain (OpenSpec.upto hopsTellsSpec)) hopsTellsUptoCard

/-- THE SECOND FORM's CARD OF 'gatepathlaw42.HopsSigns'. -/
def hopsSignsUptoCard : Claim7 := { stood := { row := hopsSignsUptoRow, standIns := [], harness := (true, "5bdcfe1343205e0d5fc59528b7e8e8fea6a63a390b557bdba4ee0b75cd251552"), looks := false }, kinds := [], alts := [], laidByText := true, laidKinds := [.data], laidTests := true, laidLooks := .later }
def HopsSignsUptoCardSaid : Prop := Claim7.holds Tryd.pinned (.plain (OpenSpec.upto hopsSignsSpec)) hopsSignsUptoCard

/-- THE SECOND FORM's CARD OF 'gatepathlaw42.HopsNames'. -/
def hopsNamesUptoCard : Claim7 := { stood := { row := hopsNamesUptoRow, standIns := [], harness := (true, "5bdcfe1343205e0d5fc59528b7e8e8fea6a63a390b557bdba4ee0b75cd251552"), looks := false }, kinds := [], alts := [], laidByText := true, laidKinds := [.data], laidTests := true, laidLooks := .later }
def HopsNamesUptoCardSaid : Prop := Claim7.holds Tryd.pinned (.plain (OpenSpec.upto hopsNamesSpec)) hopsNamesUptoCard

/-- THE SECOND FORM's CARD OF 'gatepathlaw42.HopsExact'. -/
def hopsExactUptoCard : Claim7 := { stood := { row := hopsExactUptoRow, standIns := [], harness := (true, "5bdcfe1343205e0d5fc59528b7e8e8fea6a63a390b557bdba4ee0b75cd251552"), looks := false }, kinds := [], alts := [], laidByText := true, laidKinds := [.data], laidTests := true, laidLooks := .later }
def HopsExactUptoCardSaid : Prop := Claim7.holds Tryd.pinned (.plain (OpenSpec.upto hopsExactSpec)) hopsExactUptoCard

/-- THE SECOND FORM's CARD OF 'gatepathlaw42.HopsChain'. -/
def hopsChainUptoCard : Claim7 := { stood := { row := hopsChainUptoRow, standIns := [], harness := (true, "5bdcfe1343205e0d5fc59528b7e8e8fea6a63a390b557bdba4ee0b75cd251552"), looks := false }, kinds := [], alts := [], laidByText := true, laidKinds := [.data], laidTests := true, laidLooks := .later }
def HopsChainUptoCardSaid : Prop := Claim7.holds Tryd.pinned (.plain (OpenSpec.upto hopsChainSpec)) hopsChainUptoCard

/-- THE SECOND FORM's CARD OF 'gatepathlaw42.HopsMore'. -/
def hopsMoreUptoCard : Claim7 := { stood := { row := hopsMoreUptoRow, standIns := [], harness := (true, "5bdcfe1343205e0d5fc59528b7e8e8fea6a63a390b557bdba4ee0b75cd251552"), looks := false }, kinds := [], alts := [], laidByText := true, laidKinds := [.data], laidTests := true, laidLooks := .later }
def HopsMoreUptoCardSaid : Prop := Claim7.holds Tryd.pinned (.plain (OpenSpec.upto hopsMoreSpec)) hopsMoreUptoCard

/-- THE SECOND FORM's CARD OF 'gatepathlaw42.HopsDiffers'. -/
def hopsDiffersUptoCard : Claim7 := { stood := { row := hopsDiffersUptoRow, standIns := [], harness := (true, "5bdcfe1343205e0d5fc59528b7e8e8fea6a63a390b557bdba4ee0b75cd251552"), looks := false }, kinds := [], alts := [], laidByText := true, laidKinds := [.data], laidTests := true, laidLooks := .later }
def HopsDiffersUptoCardSaid : Prop := Claim7.holds Tryd.pinned (.plain (OpenSpec.upto hopsDiffersSpec)) hopsDiffersUptoCard
end Rows
end Go.Proofs.YtjpfhkjmjnjggaaDoor
