/-
  DERIVED. GIVEN WITH THE SEED: THE CARDS: each row of YtmbgelijgmmpbaaGreatDoorRows.lean that lists a variable, with what it lists TIED to the program's text (the seventh form; the later family's looks); each row that meets fmt, with fmt's text TOLD by the authors' own Lean function (tested against real Go, not proved from fmt's source: count such statements apart). THE CARD IS WHAT COUNTS. Prove the row's statement (the work); the ties are given (YtmbgelijgmmpbaaGreatDoorTie.lean); close each card by the builder's one call (the guide's Derived/Test/ToyasCard.lean, 'card_holds'). Laid BY PROGRAM, IN A SANDBOX (cutbox-door.mjs). By AI agents, Wed Nov 11 2026. No macro, syntax, notation, axiom, sorry.
-/
import Derived.Test.YtmbgelijgmmpbaaGreatDoorRows
import GoSem.ClaimSeven
namespace Go.Proofs.YtmbgelijgmmpbaaGreatDoor
namespace Rows

/-- THE TIED CARD OF 'cantonlaw19.SumZone'. -/
def sumZoneCard : Claim7 := { stood := { row := sumZoneRow, standIns := [], harness := (true, "35c847a33f0d53a09f51aa3c49e2b0647afa1f216cffdf79613f4c36acf41ef6"), looks := false }, kinds := [], alts := [], laidByText := true, laidKinds := [.data, .data, .data, .data, .pinned], laidTests := true, laidLooks := .later }
def SumZoneCardSaid : Prop := Claim7.holds Tryz.pinned (.plain (OpenSpec.ofChange sumZoneSpec)) sumZoneCard

/-- THE TIED CARD OF 'cantonlaw19.SumLeaf'. -/
def sumLeafCard : Claim7 := { stood := { row := sumLeafRow, standIns := [], harness := (true, "35c847a33f0d53a09f51aa3c49e2b0647afa1f216cffdf79613f4c36acf41ef6"), looks := false }, kinds := [], alts := [], laidByText := true, laidKinds := [.data, .data, .data, .data, .pinned], laidTests := true, laidLooks := .later }
def SumLeafCardSaid : Prop := Claim7.holds Tryz.pinned (.plain (OpenSpec.ofChange sumLeafSpec)) sumLeafCard

/-- THE TIED CARD OF 'cantonlaw19.SumCounts'. -/
def sumCountsCard : Claim7 := { stood := { row := sumCountsRow, standIns := [], harness := (true, "35c847a33f0d53a09f51aa3c49e2b0647afa1f216cffdf79613f4c36acf41ef6"), looks := false }, kinds := [], alts := [], laidByText := true, laidKinds := [.data, .data, .data, .data, .pinned], laidTests := true, laidLooks := .later }
def SumCountsCardSaid : Prop := Claim7.holds Tryz.pinned (.plain (OpenSpec.ofChange sumCountsSpec)) sumCountsCard

/-- THE TIED CARD OF 'cantonlaw19.SumTold'. -/
def sumToldCard : Claim7 := { stood := { row := sumToldRow, standIns := [], harness := (true, "35c847a33f0d53a09f51aa3c49e2b0647afa1f216cffdf79613f4c36acf41ef6"), looks := false }, kinds := [], alts := [], laidByText := true, laidKinds := [.data, .data, .data, .data, .pinned], laidTests := true, laidLooks := .later }
def SumToldCardSaid : Prop := Claim7.holds Tryz.pinned (.plain (OpenSpec.ofChange sumToldSpec)) sumToldCard

/-- THE SECOND FORM's CARD OF 'cantonlaw19.SumZone'. -/
def sumZoneUptoCard : Claim7 := { stood := { row := sumZoneUptoRow, standIns := [], harness := (true, "35c847a33f0d53a09f51aa3c49e2b0647afa1f216cffdf79613f4c36acf41ef6"), looks := false }, kinds := [], alts := [], laidByText := true, laidKinds := [.data, .data, .data, .data, .pinned], laidTests := true, laidLooks := .later }
def SumZoneUptoCardSaid : Prop := Claim7.holds Tryz.pinned (.plain (OpenSpec.upto sumZoneSpec)) sumZoneUptoCard

/-- THE SECOND FORM's CARD OF 'cantonlaw19.SumLeaf'. -/
def sumLeafUptoCard : Claim7 := { stood := { row := sumLeafUptoRow, standIns := [], harness := (true, "35c847a33f0d53a09f51aa3c49e2b0647afa1f216cffdf79613f4c36acf41ef6"), looks := false }, kinds := [], alts := [], laidByText := true, laidKinds := [.data, .data, .data, .data, .pinned], laidTests := true, laidLooks := .later }
def SumLeafUptoCardSaid : Prop := Claim7.holds Tryz.pinned (.plain (OpenSpec.upto sumLeafSpec)) sumLeafUptoCard

/-- THE SECOND FORM's CARD OF 'cantonlaw19.SumCounts'. -/
def sumCountsUptoCard : Claim7 := { stood := { row := sumCountsUptoRow, standIns := [], harness := (true, "35c847a33f0d53a09f51aa3c49e2b0647afa1f216cffdf79613f4c36acf41ef6"), looks := false }, kinds := [], alts := [], laidByText := true, laidKinds := [.data, .data, .data, .data, .pinned], laidTests := true, laidLooks := .later }
def SumCountsUptoCardSaid : Prop := Claim7.holds Tryz.pinned (.plain (OpenSpec.upto sumCountsSpec)) sumCountsUptoCard

/-- THE SECOND FORM's CARD OF 'cantonlaw19.SumTold'. -/
def sumToldUptoCard : Claim7 := { stood := { row := sumToldUptoRow, standIns := [], harness := (true, "35c847a33f0d53a09f51aa3c49e2b0647afa1f216cffdf79613f4c36acf41ef6"), looks := false }, kinds := [], alts := [], laidByText := true, laidKinds := [.data, .data, .data, .data, .pinned], laidTests := true, laidLooks := .later }
def SumToldUptoCardSaid : Prop := Claim7.holds Tryz.pinned (.plain (OpenSpec.upto sumToldSpec)) sumToldUptoCard
end Rows
end Go.Proofs.YtmbgelijgmmpbaaGreatDoor
