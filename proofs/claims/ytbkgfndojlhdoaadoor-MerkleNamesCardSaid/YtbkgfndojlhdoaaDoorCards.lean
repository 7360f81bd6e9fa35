/-
  DERIVED. GIVEN WITH THE SEED: THE CARDS: each row of YtbkgfndojlhdoaaDoorRows.lean that lists a variable, with what it lists TIED to the program's text (the seventh form; the later family's looks); each row that meets fmt, with fmt's text TOLD by the authors' own Lean function (tested against real Go, not proved from fmt's source: count such statements apart). THE CARD IS WHAT COUNTS. Prove the row's statement (the work); the ties are given (YtbkgfndojlhdoaaDoorTie.lean); close each card by the builder's one call (the guide's Derived/Test/ToyasCard.lean, 'card_holds'). Laid BY PROGRAM, IN A SANDBOX (cutbox-door.mjs). By AI agents, Wed Nov 11 2026. No macro, syntax, notation, axiom, sorry.
-/
import Derived.Test.YtbkgfndojlhdoaaDoorRows
import GoSem.ClaimSeven
namespace Go.Proofs.YtbkgfndojlhdoaaDoor
namespace Rows

/-- THE TIED CARD OF 'gatepathlaw07.MerkleRoots'. -/
def merkleRootsCard : Claim7 := { stood := { row := merkleRootsRow, standIns := [], harness := (true, "a1d2e3b9056e1bf073bb9bedacf5e7e0dcd95449949990e914fadd0673552ce0"), looks := false }, kinds := [], alts := [], laidByText := true, laidKinds := [.data], laidTests := true, laidLooks := .later }
def MerkleRootsCardSaid : Prop := Claim7.holds Tryd.pinned (.plain (OpenSpec.ofChange merkleRootsSpec)) merkleRootsCard

/-- THE TIED CARD OF 'gatepathlaw07.MerkleKeys'. -/
def merkleKeysCard : Claim7 := { stood := { row := merkleKeysRow, standIns := [], harness := (true, "a1d2e3b9056e1bf073bb9bedacf5e7e0dcd95449949990e914fadd0673552ce0"), looks := false }, kinds := [], alts := [], laidByText := true, laidKinds := [.data], laidTests := true, laidLooks := .later }
def MerkleKeysCardSaid : Prop := Claim7.holds Tryd.pinned (.plain (OpenSpec.ofChange merkleKeysSpec)) merkleKeysCard

/-- THE TIED CARD OF 'gatepathlaw07.MerkleNames'. -/
def merkleNamesCard : Claim7 := { stood := { row := merkleNamesRow, standIns := [], harness := (true, "a1d2e3b9056e1bf073bb9bedacf5e7e0dcd95449949990e914fadd0673552ce0"), looks := false }, kinds := [], alts := [], laidByText := true, laidKinds := [.data], laidTests := true, laidLooks := .later }
def MerkleNamesCardSaid : Prop := Claim7.holds Tryd.pinned (.plain (OpenSpec.ofChange merkleNamesSpec)) merkleNamesCard

/-- THE TIED CARD OF 'gatepathlaw07.MerkleVerifies'. -/
def merkleVerifiesCard : Claim7 := { stood := { row := merkleVerifiesRow, standIns := [], harness := (true, "a1d2e3b9056e1bf073bb9bedacf5e7e0dcd95449949990e914fadd0673552ce0"), looks := false }, kinds := [], alts := [], laidByText := true, laidKinds := [.data], laidTests := true, laidLooks := .later }
def MerkleVerifiesCardSaid : Prop := Claim7.holds Tryd.pinned (.plain (OpenSpec.ofChange merkleVerifiesSpec)) merkleVerifiesCard

/-- THE TIED CARD OF 'gatepathlaw07.MerkleIndices'. -/
def merkleIndicesCard : Claim7 := { stood := { row := merkleIndicesRow, standIns := [], harness := (true, "a1d2e3b9056e1bf073bb9bedacf5e7e0dcd95449949990e914fadd0673552ce0"), looks := false }, kinds := [], alts := [], laidByText := true, laidKinds := [.data], laidTests := true, laidLooks := .later }
def MerkleIndicesCardSaid : Prop := Claim7.holds Tryd.pinned (.plain (OpenSpec.ofChange merkleIndicesSpec)) merkleIndicesCard

/-- THE TIED CARD OF 'gatepathlaw07.MerklePaths'. -/
def merklePathsCard : Claim7 := { stood := { row := merklePathsRow, standIns := [], harness := (true, "a1d2e3b9056e1bf073bb9bedacf5e7e0dcd95449949990e914fadd0673552ce0"), looks := false }, kinds := [], alts := [], laidByText := true, laidKinds := [.data], laidTests := true, laidLooks := .later }
def MerklePathsCardSaid : Prop := Claim7.holds Tryd.pinned (.plain (OpenSpec.ofChange merklePathsSpec)) merklePathsCard

/-- THE TIED CARD OF 'gatepathlaw07.MerkleOnly'. -/
def merkleOnlyCard : Claim7 := { stood := { row := merkleOnlyRow, standIns := [], harness := (true, "a1d2e3b9056e1bf073bb9bedacf5e7e0dcd95449949990e914fadd0673552ce0"), looks := false }, kinds := [], alts := [], laidByText := true, laidKinds := [.data], laidTests := true, laidLooks := .later }
def MerkleOnlyCardSaid : Prop := Claim7.holds Tryd.pinned (.plain (OpenSpec.ofChange merkleOnlySpec)) merkleOnlyCard

/-- THE SECOND FORM's CARD OF 'gatepathlaw07.MerkleRoots'. -/
def merkleRootsUptoCard : Claim7 := { stood := { row := merkleRootsUptoRow, standIns := [], harness := (true, "a1d2e3b9056e1bf073bb9bedacf5e7e0dcd95449949990e914fadd0673552ce0"), looks := false }, kinds := [], alts := [], laidByText := true, laidKinds := [.data], laidTests := true, laidLooks := .later }
def MerkleRootsUptoCardSaid : Prop := Claim7.holds Tryd.pinned (.plain (OpenSpec.upto merkleRootsSpec)) merkleRootsUptoCard

/-- THE SECOND FORM's CARD OF 'gatepathlaw07.MerkleKeys'. -/
def merkleKeysUptoCard : Claim7 := { stood := { row := merkleKeysUptoRow, standIns := [], harness := (true, "a1d2e3b9056e1bf073bb9bedacf5e7e0dcd95449949990e914fadd0673552ce0"), looks := false }, kinds := [], alts := [], laidByText := true, laidKinds := [.data], laidTests := true, laidLooks := .later }
def MerkleKeysUptoCardSaid : Prop := Claim7.holds Tryd.pinned (.plain (OpenSpec.upto merkleKeysSpec)) merkleKeysUptoCard

/-- THE SECOND FORM's CARD OF 'gatepathlaw07.MerkleNames'. -/
def merkleNamesUptoCard : Claim7 := { stood := { row := merkleNamesUptoRow, standIns := [], harness := (true, "a1d2e3b9056e1bf073bb9bedacf5e7e0dcd95449949990e914fadd0673552ce0"), looks := false }, kinds := [], alts := [], laidByText := true, laidKinds := [.data], laidTests := true, laidLooks := .later }
def MerkleNamesUptoCardSaid : Prop := Claim7.holds Tryd.pinned (.plain (OpenSpec.upto merkleNamesSpec)) merkleNamesUptoCard

/-- THE SECOND FORM's CARD OF 'gatepathlaw07.MerkleVerifies'. -/
def merkleVerifiesUptoCard : Claim7 := { stood := { row := merkleVerifiesUptoRow, standIns := [], harness := (true, "a1d2e3b9056e1bf073bb9bedacf5e7e0dcd95449949990e914fadd0673552ce0"), looks := false }, kinds := [], alts := [], laidByText := true, laidKinds := [.data], laidTests := true, laidLooks := .later }
def MerkleVerifiesUptoCardSaid : Prop := Claim7.holds Tryd.pinned (.plain (OpenSpec.upto merkleVerifiesSpec)) merkleVerifiesUptoCard

/-- THE SECOND FORM's CARD OF 'gatepathlaw07.MerkleIndices'. -/
def merkleIndicesUptoCard : Claim7 := { stood := { row := merkleIndicesUptoRow, standIns := [], harness := (true, "a1d2e3b9056e1bf073bb9bedacf5e7e0dcd95449949990e914fadd0673552ce0"), looks := false }, kinds := [], alts := [], laidByText := true, laidKinds := [.data], laidTests := true, laidLooks := .later }
def MerkleIndicesUptoCardSaid : Prop := Claim7.holds Tryd.pinned (.plain (OpenSpec.upto merkleIndicesSpec)) merkleIndicesUptoCard

/-- THE SECOND FORM's CARD OF 'gatepathlaw07.MerklePaths'. -/
def merklePathsUptoCard : Claim7 := { stood := { row := merklePathsUptoRow, standIns := [], harness := (true, "a1d2e3b9056e1bf073bb9bedacf5e7e0dcd95449949990e914fadd0673552ce0"), looks := false }, kinds := [], alts := [], laidByText := true, laidKinds := [.data], laidTests := true, laidLooks := .later }
def MerklePathsUptoCardSaid : Prop := Claim7.holds Tryd.pinned (.plain (OpenSpec.upto merklePathsSpec)) merklePathsUptoCard

/-- THE SECOND FORM's CARD OF 'gatepathlaw07.MerkleOnly'. -/
def merkleOnlyUptoCard : Claim7 := { stood := { row := merkleOnlyUptoRow, standIns := [], harness := (true, "a1d2e3b9056e1bf073bb9bedacf5e7e0dcd95449949990e914fadd0673552ce0"), looks := false }, kinds := [], alts := [], laidByText := true, laidKinds := [.data], laidTests := true, laidLooks := .later }
def MerkleOnlyUptoCardSaid : Prop := Claim7.holds Tryd.pinned (.plain (OpenSpec.upto merkleOnlySpec)) merkleOnlyUptoCard
end Rows
end Go.Proofs.YtbkgfndojlhdoaaDoor
