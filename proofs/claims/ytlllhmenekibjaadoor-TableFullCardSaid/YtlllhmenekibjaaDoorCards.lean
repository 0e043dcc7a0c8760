/-
  DERIVED. GIVEN WITH THE SEED: THE CARDS: each row of YtlllhmenekibjaaDoorRows.lean that lists a variable, with what it lists TIED to the program's text (the seventh form; the later family's looks); each row that meets fmt, with fmt's text TOLD by the authors' own Lean function (tested against real Go, not proved from fmt's source: count such statements apart). THE CARD IS WHAT COUNTS. Prove the row's statement (the work); the ties are given (YtlllhmenekibjaaDoorTie.lean); close each card by the builder's one call (the guide's Derived/Test/ToyasCard.lean, 'card_holds'). Laid BY PROGRAM, IN A SANDBOX (cutbox-door.mjs). By AI agents, Wed Nov 11 2026. No macro, syntax, notation, axiom, sorry.
-/
import Derived.Test.YtlllhmenekibjaaDoorRows
import GoSem.ClaimSeven
namespace Go.Proofs.YtlllhmenekibjaaDoor
namespace Rows

/-- THE TIED CARD OF 'cantonlaw13.TableFull'. -/
def tableFullCard : Claim7 := { stood := { row := tableFullRow, standIns := [], harness := (true, "92c45004050ffbfd6f73fdb47418e00fc632161d367b475e98e3a1ec7e847a72"), looks := false }, kinds := [], alts := [], laidByText := true, laidKinds := [.data, .pinned], laidTests := true, laidLooks := .later }
def TableFullCardSaid : Prop := Claim7.holds Tryd.pinned (.plain (OpenSpec.ofChange tableFullSpec)) tableFullCard

/-- THE TIED CARD OF 'cantonlaw13.TableSweeps'. -/
def tableSweepsCard : Claim7 := { stood := { row := tableSweepsRow, standIns := [], harness := (true, "92c45004050ffbfd6f73fdb47418e00fc632161d367b475e98e3a1ec7e847a72"), looks := false }, kinds := [], alts := [], laidByText := true, laidKinds := [.data, .pinned], laidTests := true, laidLooks := .later }
def TableSweepsCardSaid : Prop := Claim7.holds Tryd.pinned (.plain (OpenSpec.ofChange tableSweepsSpec)) tableSweepsCard

/-- THE TIED CARD OF 'cantonlaw13.TableGets'. -/
def tableGetsCard : Claim7 := { stood := { row := tableGetsRow, standIns := [], harness := (true, "92c45004050ffbfd6f73fdb47418e00fc632161d367b475e98e3a1ec7e847a72"), looks := false }, kinds := [], alts := [], laidByText := true, laidKinds := [.data, .pinned], laidTests := true, laidLooks := .later }
def TableGetsCardSaid : Prop := Claim7.holds Tryd.pinned (.plain (OpenSpec.ofChange tableGetsSpec)) tableGetsCard

/-- THE SECOND FORM's CARD OF 'cantonlaw13.TableFull'. -/
def tableFullUptoCard : Claim7 := { stood := { row := tableFullUptoRow, standIns := [], harness := (true, "92c45004050ffbfd6f73fdb47418e00fc632161d367b475e98e3a1ec7e847a72"), looks := false }, kinds := [], alts := [], laidByText := true, laidKinds := [.data, .pinned], laidTests := true, laidLooks := .later }
def TableFullUptoCardSaid : Prop := Claim7.holds Tryd.pinned (.plain (OpenSpec.upto tableFullSpec)) tableFullUptoCard

/-- THE SECOND FORM's CARD OF 'cantonlaw13.TableSweeps'. -/
def tableSweepsUptoCard : Claim7 := { stood := { row := tableSweepsUptoRow, standIns := [], harness := (true, "92c45004050ffbfd6f73fdb47418e00fc632161d367b475e98e3a1ec7e847a72"), looks := false }, kinds := [], alts := [], laidByText := true, laidKinds := [.data, .pinned], laidTests := true, laidLooks := .later }
def TableSweepsUptoCardSaid : Prop := Claim7.holds Tryd.pinned (.plain (OpenSpec.upto tableSweepsSpec)) tableSweepsUptoCard

/-- THE SECOND FORM's CARD OF 'cantonlaw13.TableGets'. -/
def tableGetsUptoCard : Claim7 := { stood := { row := tableGetsUptoRow, standIns := [], harness := (true, "92c45004050ffbfd6f73fdb47418e00fc632161d367b475e98e3a1ec7e847a72"), looks := false }, kinds := [], alts := [], laidByText := true, laidKinds := [.data, .pinned], laidTests := true, laidLooks := .later }
def TableGetsUptoCardSaid : Prop := Claim7.holds Tryd.pinned (.plain (OpenSpec.upto tableGetsSpec)) tableGetsUptoCard
end Rows
end Go.Proofs.YtlllhmenekibjaaDoor
