/-
  DERIVED. GIVEN WITH THE SEED: THE CARDS: each row of YtlllhmenekibjaaGreatDoorRows.lean that lists a variable, with what it lists TIED to the program's text (the seventh form; the later family's looks); each row that meets fmt, with fmt's text TOLD by the authors' own Lean function (tested against real Go, not proved from fmt's source: count such statements apart). THE CARD IS WHAT COUNTS. Prove the row's statement (the work); the ties are given (YtlllhmenekibjaaGreatDoorTie.lean); close each card by the builder's one call (the guide's Derived/Test/ToyasCard.lean, 'card_holds'). Laid BY PROGRAM, IN A SANDBOX (cutbox-door.mjs). By AI agents, Wed Nov 11 2026. No macro, syntax, notation, axiom, sorry.
-/
import Derived.Test.YtlllhmenekibjaaGreatDoorRows
import GoSem.ClaimSeven
namespace Go.Proofs.YtlllhmenekibjaaGreatDoor
namespace Rows

/-- THE TIED CARD OF 'cantonlaw13.TablePlays'. -/
def tablePlaysCard : Claim7 := { stood := { row := tablePlaysRow, standIns := [], harness := (true, "966bacc0b4f470a440288f0ddfa6bcca15289335b862fdc45320becef71b80fb"), looks := false }, kinds := [], alts := [], laidByText := true, laidKinds := [.data, .pinned], laidTests := true, laidLooks := .later }
def TablePlaysCardSaid : Prop := Claim7.holds Tryz.pinned (.plain (OpenSpec.ofChange tablePlaysSpec)) tablePlaysCard

/-- THE TIED CARD OF 'cantonlaw13.TableNewest'. -/
def tableNewestCard : Claim7 := { stood := { row := tableNewestRow, standIns := [], harness := (true, "966bacc0b4f470a440288f0ddfa6bcca15289335b862fdc45320becef71b80fb"), looks := false }, kinds := [], alts := [], laidByText := true, laidKinds := [.data, .pinned], laidTests := true, laidLooks := .later }
def TableNewestCardSaid : Prop := Claim7.holds Tryz.pinned (.plain (OpenSpec.ofChange tableNewestSpec)) tableNewestCard

/-- THE TIED CARD OF 'cantonlaw18.ChainPlays'. -/
def chainPlaysCard : Claim7 := { stood := { row := chainPlaysRow, standIns := [], harness := (true, "966bacc0b4f470a440288f0ddfa6bcca15289335b862fdc45320becef71b80fb"), looks := false }, kinds := [], alts := [], laidByText := true, laidKinds := [.data, .pinned], laidTests := true, laidLooks := .later }
def ChainPlaysCardSaid : Prop := Claim7.holds Tryz.pinned (.plain (OpenSpec.ofChange chainPlaysSpec)) chainPlaysCard

/-- THE TIED CARD OF 'cantonlaw18.ChainApart'. -/
def chainApartCard : Claim7 := { stood := { row := chainApartRow, standIns := [], harness := (true, "966bacc0b4f470a440288f0ddfa6bcca15289335b862fdc45320becef71b80fb"), looks := false }, kinds := [], alts := [], laidByText := true, laidKinds := [.data, .pinned], laidTests := true, laidLooks := .later }
def ChainApartCardSaid : Prop := Claim7.holds Tryz.pinned (.plain (OpenSpec.ofChange chainApartSpec)) chainApartCard

/-- THE SECOND FORM's CARD OF 'cantonlaw13.TablePlays'. -/
def tablePlaysUptoCard : Claim7 := { stood := { row := tablePlaysUptoRow, standIns := [], harness := (true, "966bacc0b4f470a440288f0ddfa6bcca15289335b862fdc45320becef71b80fb"), looks := false }, kinds := [], alts := [], laidByText := true, laidKinds := [.data, .pinned], laidTests := true, laidLooks := .later }
def TablePlaysUptoCardSaid : Prop := Claim7.holds Tryz.pinned (.plain (OpenSpec.upto tablePlaysSpec)) tablePlaysUptoCard

/-- THE SECOND FORM's CARD OF 'cantonlaw13.TableNewest'. -/
def tableNewestUptoCard : Claim7 := { stood := { row := tableNewestUptoRow, standIns := [], harness := (true, "966bacc0b4f470a440288f0ddfa6bcca15289335b862fdc45320becef71b80fb"), looks := false }, kinds := [], alts := [], laidByText := true, laidKinds := [.data, .pinned], laidTests := true, laidLooks := .later }
def TableNewestUptoCardSaid : Prop := Claim7.holds Tryz.pinned (.plain (OpenSpec.upto tableNewestSpec)) tableNewestUptoCard

/-- THE SECOND FORM's CARD OF 'cantonlaw18.ChainPlays'. -/
def chainPlaysUptoCard : Claim7 := { stood := { row := chainPlaysUptoRow, standIns := [], harness := (true, "966bacc0b4f470a440288f0ddfa6bcca15289335b862fdc45320becef71b80fb"), looks := false }, kinds := [], alts := [], laidByText := true, laidKinds := [.data, .pinned], laidTests := true, laidLooks := .later }
def ChainPlaysUptoCardSaid : Prop := Claim7.holds Tryz.pinned (.plain (OpenSpec.upto chainPlaysSpec)) chainPlaysUptoCard

/-- THE SECOND FORM's CARD OF 'cantonlaw18.ChainApart'. -/
def chainApartUptoCard : Claim7 := { stood := { row := chainApartUptoRow, standIns := [], harness := (true, "966bacc0b4f470a440288f0ddfa6bcca15289335b862fdc45320becef71b80fb"), looks := false }, kinds := [], alts := [], laidByText := true, laidKinds := [.data, .pinned], laidTests := true, laidLooks := .later }
def ChainApartUptoCardSaid : Prop := Claim7.holds Tryz.pinned (.plain (OpenSpec.upto chainApartSpec)) chainApartUptoCard
end Rows
end Go.Proofs.YtlllhmenekibjaaGreatDoor
