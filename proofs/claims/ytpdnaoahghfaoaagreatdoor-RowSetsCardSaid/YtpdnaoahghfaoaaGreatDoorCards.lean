/-
  DERIVED. GIVEN WITH THE SEED: THE CARDS: each row of YtpdnaoahghfaoaaGreatDoorRows.lean that lists a variable, with what it lists TIED to the program's text (the seventh form; the later family's looks); each row that meets fmt, with fmt's text TOLD by the authors' own Lean function (tested against real Go, not proved from fmt's source: count such statements apart). THE CARD IS WHAT COUNTS. Prove the row's statement (the work); the ties are given (YtpdnaoahghfaoaaGreatDoorTie.lean); close each card by the builder's one call (the guide's Derived/Test/ToyasCard.lean, 'card_holds'). Laid BY PROGRAM, IN A SANDBOX (cutbox-door.mjs). By AI agents, Wed Nov 11 2026. No macro, syntax, notation, axiom, sorry.
-/
import Derived.Test.YtpdnaoahghfaoaaGreatDoorRows
import GoSem.ClaimSeven
namespace Go.Proofs.YtpdnaoahghfaoaaGreatDoor
namespace Rows

/-- THE TIED CARD OF 'cantonlaw4.RowAny'. -/
def rowAnyCard : Claim7 := { stood := { row := rowAnyRow, standIns := [], harness := (true, "88cd2c0f75cffadde4e9f0ced061d6620d17fe71ecb2b1aab080ced6e4931e4e"), looks := true }, kinds := [], alts := [], laidByText := true, laidKinds := [.data, .data, .data, .data, .pinned], laidTests := true, laidLooks := .later }
def RowAnyCardSaid : Prop := Claim7.holds Tryz.pinned (.plain (OpenSpec.ofChange rowAnySpec)) rowAnyCard

/-- THE TIED CARD OF 'cantonlaw4.RowPlays'. -/
def rowPlaysCard : Claim7 := { stood := { row := rowPlaysRow, standIns := [], harness := (true, "88cd2c0f75cffadde4e9f0ced061d6620d17fe71ecb2b1aab080ced6e4931e4e"), looks := true }, kinds := [], alts := [], laidByText := true, laidKinds := [.data, .data, .data, .data, .pinned], laidTests := true, laidLooks := .later }
def RowPlaysCardSaid : Prop := Claim7.holds Tryz.pinned (.plain (OpenSpec.ofChange rowPlaysSpec)) rowPlaysCard

/-- THE TIED CARD OF 'cantonlaw4.RowSets'. -/
def rowSetsCard : Claim7 := { stood := { row := rowSetsRow, standIns := [], harness := (true, "88cd2c0f75cffadde4e9f0ced061d6620d17fe71ecb2b1aab080ced6e4931e4e"), looks := true }, kinds := [], alts := [], laidByText := true, laidKinds := [.data, .data, .data, .data, .pinned], laidTests := true, laidLooks := .later }
def RowSetsCardSaid : Prop := Claim7.holds Tryz.pinned (.plain (OpenSpec.ofChange rowSetsSpec)) rowSetsCard

/-- THE TIED CARD OF 'cantonlaw9.ExprTexts'. -/
def exprTextsCard : Claim7 := { stood := { row := exprTextsRow, standIns := [], harness := (true, "88cd2c0f75cffadde4e9f0ced061d6620d17fe71ecb2b1aab080ced6e4931e4e"), looks := true }, kinds := [], alts := [], laidByText := true, laidKinds := [.data, .data, .data, .sentinel, .sentinel, .listed, .data], laidTests := true, laidLooks := .later }
def ExprTextsCardSaid : Prop := Claim7.holds Tryz.pinned (.plain (OpenSpec.ofChange exprTextsSpec)) exprTextsCard

/-- THE TIED CARD OF 'cantonlaw9.ExprTokens'. -/
def exprTokensCard : Claim7 := { stood := { row := exprTokensRow, standIns := [], harness := (true, "88cd2c0f75cffadde4e9f0ced061d6620d17fe71ecb2b1aab080ced6e4931e4e"), looks := true }, kinds := [], alts := [], laidByText := true, laidKinds := [.data, .data, .data, .sentinel, .sentinel, .listed, .data], laidTests := true, laidLooks := .later }
def ExprTokensCardSaid : Prop := Claim7.holds Tryz.pinned (.plain (OpenSpec.ofChange exprTokensSpec)) exprTokensCard

/-- THE TIED CARD OF 'cantonlaw9.ExprBack'. -/
def exprBackCard : Claim7 := { stood := { row := exprBackRow, standIns := [], harness := (true, "88cd2c0f75cffadde4e9f0ced061d6620d17fe71ecb2b1aab080ced6e4931e4e"), looks := true }, kinds := [], alts := [], laidByText := true, laidKinds := [.data, .data, .data, .sentinel, .sentinel, .listed, .data], laidTests := true, laidLooks := .later }
def ExprBackCardSaid : Prop := Claim7.holds Tryz.pinned (.plain (OpenSpec.ofChange exprBackSpec)) exprBackCard

/-- THE TIED CARD OF 'cantonlaw9.ExprDeep'. -/
def exprDeepCard : Claim7 := { stood := { row := exprDeepRow, standIns := [], harness := (true, "88cd2c0f75cffadde4e9f0ced061d6620d17fe71ecb2b1aab080ced6e4931e4e"), looks := true }, kinds := [], alts := [], laidByText := true, laidKinds := [.data, .data, .data, .sentinel, .sentinel, .listed, .data], laidTests := true, laidLooks := .later }
def ExprDeepCardSaid : Prop := Claim7.holds Tryz.pinned (.plain (OpenSpec.ofChange exprDeepSpec)) exprDeepCard

/-- THE TIED CARD OF 'cantonlaw9.ExprLeft'. -/
def exprLeftCard : Claim7 := { stood := { row := exprLeftRow, standIns := [], harness := (true, "88cd2c0f75cffadde4e9f0ced061d6620d17fe71ecb2b1aab080ced6e4931e4e"), looks := true }, kinds := [], alts := [], laidByText := true, laidKinds := [.data, .data, .data, .sentinel, .sentinel, .listed, .data], laidTests := true, laidLooks := .later }
def ExprLeftCardSaid : Prop := Claim7.holds Tryz.pinned (.plain (OpenSpec.ofChange exprLeftSpec)) exprLeftCard

/-- THE TIED CARD OF 'cantonlaw9.ExprNames'. -/
def exprNamesCard : Claim7 := { stood := { row := exprNamesRow, standIns := [], harness := (true, "88cd2c0f75cffadde4e9f0ced061d6620d17fe71ecb2b1aab080ced6e4931e4e"), looks := true }, kinds := [], alts := [], laidByText := true, laidKinds := [.data, .data, .data, .sentinel, .sentinel, .listed, .data], laidTests := true, laidLooks := .later }
def ExprNamesCardSaid : Prop := Claim7.holds Tryz.pinned (.plain (OpenSpec.ofChange exprNamesSpec)) exprNamesCard

/-- THE SECOND FORM's CARD OF 'cantonlaw4.RowAny'. -/
def rowAnyUptoCard : Claim7 := { stood := { row := rowAnyUptoRow, standIns := [], harness := (true, "88cd2c0f75cffadde4e9f0ced061d6620d17fe71ecb2b1aab080ced6e4931e4e"), looks := true }, kinds := [], alts := [], laidByText := true, laidKinds := [.data, .data, .data, .data, .pinned], laidTests := true, laidLooks := .later }
def RowAnyUptoCardSaid : Prop := Claim7.holds Tryz.pinned (.plain (OpenSpec.upto rowAnySpec)) rowAnyUptoCard

/-- THE SECOND FORM's CARD OF 'cantonlaw4.RowPlays'. -/
def rowPlaysUptoCard : Claim7 := { stood := { row := rowPlaysUptoRow, standIns := [], harness := (true, "88cd2c0f75cffadde4e9f0ced061d6620d17fe71ecb2b1aab080ced6e4931e4e"), looks := true }, kinds := [], alts := [], laidByText := true, laidKinds := [.data, .data, .data, .data, .pinned], laidTests := true, laidLooks := .later }
def RowPlaysUptoCardSaid : Prop := Claim7.holds Tryz.pinned (.plain (OpenSpec.upto rowPlaysSpec)) rowPlaysUptoCard

/-- THE SECOND FORM's CARD OF 'cantonlaw4.RowSets'. -/
def rowSetsUptoCard : Claim7 := { stood := { row := rowSetsUptoRow, standIns := [], harness := (true, "88cd2c0f75cffadde4e9f0ced061d6620d17fe71ecb2b1aab080ced6e4931e4e"), looks := true }, kinds := [], alts := [], laidByText := true, laidKinds := [.data, .data, .data, .data, .pinned], laidTests := true, laidLooks := .later }
def RowSetsUptoCardSaid : Prop := Claim7.holds Tryz.pinned (.plain (OpenSpec.upto rowSetsSpec)) rowSetsUptoCard

/-- THE SECOND FORM's CARD OF 'cantonlaw9.ExprTexts'. -/
def exprTextsUptoCard : Claim7 := { stood := { row := exprTextsUptoRow, standIns := [], harness := (true, "88cd2c0f75cffadde4e9f0ced061d6620d17fe71ecb2b1aab080ced6e4931e4e"), looks := true }, kinds := [], alts := [], laidByText := true, laidKinds := [.data, .data, .data, .sentinel, .sentinel, .listed, .data], laidTests := true, laidLooks := .later }
def ExprTextsUptoCardSaid : Prop := Claim7.holds Tryz.pinned (.plain (OpenSpec.upto exprTextsSpec)) exprTextsUptoCard

/-- THE SECOND FORM's CARD OF 'cantonlaw9.ExprTokens'. -/
def exprTokensUptoCard : Claim7 := { stood := { row := exprTokensUptoRow, standIns := [], harness := (true, "88cd2c0f75cffadde4e9f0ced061d6620d17fe71ecb2b1aab080ced6e4931e4e"), looks := true }, kinds := [], alts := [], laidByText := true, laidKinds := [.data, .data, .data, .sentinel, .sentinel, .listed, .data], laidTests := true, laidLooks := .later }
def ExprTokensUptoCardSaid : Prop := Claim7.holds Tryz.pinned (.plain (OpenSpec.upto exprTokensSpec)) exprTokensUptoCard

/-- THE SECOND FORM's CARD OF 'cantonlaw9.ExprBack'. -/
def exprBackUptoCard : Claim7 := { stood := { row := exprBackUptoRow, standIns := [], harness := (true, "88cd2c0f75cffadde4e9f0ced061d6620d17fe71ecb2b1aab080ced6e4931e4e"), looks := true }, kinds := [], alts := [], laidByText := true, laidKinds := [.data, .data, .data, .sentinel, .sentinel, .listed, .data], laidTests := true, laidLooks := .later }
def ExprBackUptoCardSaid : Prop := Claim7.holds Tryz.pinned (.plain (OpenSpec.upto exprBackSpec)) exprBackUptoCard

/-- THE SECOND FORM's CARD OF 'cantonlaw9.ExprDeep'. -/
def exprDeepUptoCard : Claim7 := { stood := { row := exprDeepUptoRow, standIns := [], harness := (true, "88cd2c0f75cffadde4e9f0ced061d6620d17fe71ecb2b1aab080ced6e4931e4e"), looks := true }, kinds := [], alts := [], laidByText := true, laidKinds := [.data, .data, .data, .sentinel, .sentinel, .listed, .data], laidTests := true, laidLooks := .later }
def ExprDeepUptoCardSaid : Prop := Claim7.holds Tryz.pinned (.plain (OpenSpec.upto exprDeepSpec)) exprDeepUptoCard

/-- THE SECOND FORM's CARD OF 'cantonlaw9.ExprLeft'. -/
def exprLeftUptoCard : Claim7 := { stood := { row := exprLeftUptoRow, standIns := [], harness := (true, "88cd2c0f75cffadde4e9f0ced061d6620d17fe71ecb2b1aab080ced6e4931e4e"), looks := true }, kinds := [], alts := [], laidByText := true, laidKinds := [.data, .data, .data, .sentinel, .sentinel, .listed, .data], laidTests := true, laidLooks := .later }
def ExprLeftUptoCardSaid : Prop := Claim7.holds Tryz.pinned (.plain (OpenSpec.upto exprLeftSpec)) exprLeftUptoCard

/-- THE SECOND FORM's CARD OF 'cantonlaw9.ExprNames'. -/
def exprNamesUptoCard : Claim7 := { stood := { row := exprNamesUptoRow, standIns := [], harness := (true, "88cd2c0f75cffadde4e9f0ced061d6620d17fe71ecb2b1aab080ced6e4931e4e"), looks := true }, kinds := [], alts := [], laidByText := true, laidKinds := [.data, .data, .data, .sentinel, .sentinel, .listed, .data], laidTests := true, laidLooks := .later }
def ExprNamesUptoCardSaid : Prop := Claim7.holds Tryz.pinned (.plain (OpenSpec.upto exprNamesSpec)) exprNamesUptoCard
end Rows
end Go.Proofs.YtpdnaoahghfaoaaGreatDoor
