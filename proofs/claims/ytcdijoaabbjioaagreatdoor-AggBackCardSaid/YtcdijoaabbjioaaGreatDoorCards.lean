/-
  DERIVED. GIVEN WITH THE SEED: THE CARDS: each row of YtcdijoaabbjioaaGreatDoorRows.lean that lists a variable, with what it lists TIED to the program's text (the seventh form; the later family's looks); each row that meets fmt, with fmt's text TOLD by the authors' own Lean function (tested against real Go, not proved from fmt's source: count such statements apart). THE CARD IS WHAT COUNTS. Prove the row's statement (the work); the ties are given (YtcdijoaabbjioaaGreatDoorTie.lean); close each card by the builder's one call (the guide's Derived/Test/ToyasCard.lean, 'card_holds'). Laid BY PROGRAM, IN A SANDBOX (cutbox-door.mjs). By AI agents, Wed Nov 11 2026. No macro, syntax, notation, axiom, sorry.
-/
import Derived.Test.YtcdijoaabbjioaaGreatDoorRows
import GoSem.ClaimSeven
namespace Go.Proofs.YtcdijoaabbjioaaGreatDoor
namespace Rows

/-- THE TIED CARD OF 'cantonlaw11.AggTexts'. -/
def aggTextsCard : Claim7 := { stood := { row := aggTextsRow, standIns := [], harness := (true, "c682789716aafe89ab2db19cd3fc90fe7cbffc6bbd8b568a3f2664e31c3b928b"), looks := true }, kinds := [], alts := [], laidByText := true, laidKinds := [.data, .data, .data, .sentinel, .sentinel, .listed, .data], laidTests := true, laidLooks := .later }
def AggTextsCardSaid : Prop := Claim7.holds Tryz.pinned (.plain (OpenSpec.ofChange aggTextsSpec)) aggTextsCard

/-- THE TIED CARD OF 'cantonlaw11.AggBack'. -/
def aggBackCard : Claim7 := { stood := { row := aggBackRow, standIns := [], harness := (true, "c682789716aafe89ab2db19cd3fc90fe7cbffc6bbd8b568a3f2664e31c3b928b"), looks := true }, kinds := [], alts := [], laidByText := true, laidKinds := [.data, .data, .data, .sentinel, .sentinel, .listed, .data], laidTests := true, laidLooks := .later }
def AggBackCardSaid : Prop := Claim7.holds Tryz.pinned (.plain (OpenSpec.ofChange aggBackSpec)) aggBackCard

/-- THE TIED CARD OF 'cantonlaw11.AggEval'. -/
def aggEvalCard : Claim7 := { stood := { row := aggEvalRow, standIns := [], harness := (true, "c682789716aafe89ab2db19cd3fc90fe7cbffc6bbd8b568a3f2664e31c3b928b"), looks := true }, kinds := [], alts := [], laidByText := true, laidKinds := [.data, .data, .data, .sentinel, .sentinel, .listed, .data], laidTests := true, laidLooks := .later }
def AggEvalCardSaid : Prop := Claim7.holds Tryz.pinned (.plain (OpenSpec.ofChange aggEvalSpec)) aggEvalCard

/-- THE TIED CARD OF 'cantonlaw11.AggNone'. -/
def aggNoneCard : Claim7 := { stood := { row := aggNoneRow, standIns := [], harness := (true, "c682789716aafe89ab2db19cd3fc90fe7cbffc6bbd8b568a3f2664e31c3b928b"), looks := true }, kinds := [], alts := [], laidByText := true, laidKinds := [.data, .data, .data, .sentinel, .sentinel, .listed, .data], laidTests := true, laidLooks := .later }
def AggNoneCardSaid : Prop := Claim7.holds Tryz.pinned (.plain (OpenSpec.ofChange aggNoneSpec)) aggNoneCard

/-- THE TIED CARD OF 'cantonlaw11.AggTurned'. -/
def aggTurnedCard : Claim7 := { stood := { row := aggTurnedRow, standIns := [], harness := (true, "c682789716aafe89ab2db19cd3fc90fe7cbffc6bbd8b568a3f2664e31c3b928b"), looks := true }, kinds := [], alts := [], laidByText := true, laidKinds := [.data, .data, .data, .sentinel, .sentinel, .listed, .data], laidTests := true, laidLooks := .later }
def AggTurnedCardSaid : Prop := Claim7.holds Tryz.pinned (.plain (OpenSpec.ofChange aggTurnedSpec)) aggTurnedCard

/-- THE SECOND FORM's CARD OF 'cantonlaw11.AggTexts'. -/
def aggTextsUptoCard : Claim7 := { stood := { row := aggTextsUptoRow, standIns := [], harness := (true, "c682789716aafe89ab2db19cd3fc90fe7cbffc6bbd8b568a3f2664e31c3b928b"), looks := true }, kinds := [], alts := [], laidByText := true, laidKinds := [.data, .data, .data, .sentinel, .sentinel, .listed, .data], laidTests := true, laidLooks := .later }
def AggTextsUptoCardSaid : Prop := Claim7.holds Tryz.pinned (.plain (OpenSpec.upto aggTextsSpec)) aggTextsUptoCard

/-- THE SECOND FORM's CARD OF 'cantonlaw11.AggBack'. -/
def aggBackUptoCard : Claim7 := { stood := { row := aggBackUptoRow, standIns := [], harness := (true, "c682789716aafe89ab2db19cd3fc90fe7cbffc6bbd8b568a3f2664e31c3b928b"), looks := true }, kinds := [], alts := [], laidByText := true, laidKinds := [.data, .data, .data, .sentinel, .sentinel, .listed, .data], laidTests := true, laidLooks := .later }
def AggBackUptoCardSaid : Prop := Claim7.holds Tryz.pinned (.plain (OpenSpec.upto aggBackSpec)) aggBackUptoCard

/-- THE SECOND FORM's CARD OF 'cantonlaw11.AggEval'. -/
def aggEvalUptoCard : Claim7 := { stood := { row := aggEvalUptoRow, standIns := [], harness := (true, "c682789716aafe89ab2db19cd3fc90fe7cbffc6bbd8b568a3f2664e31c3b928b"), looks := true }, kinds := [], alts := [], laidByText := true, laidKinds := [.data, .data, .data, .sentinel, .sentinel, .listed, .data], laidTests := true, laidLooks := .later }
def AggEvalUptoCardSaid : Prop := Claim7.holds Tryz.pinned (.plain (OpenSpec.upto aggEvalSpec)) aggEvalUptoCard

/-- THE SECOND FORM's CARD OF 'cantonlaw11.AggNone'. -/
def aggNoneUptoCard : Claim7 := { stood := { row := aggNoneUptoRow, standIns := [], harness := (true, "c682789716aafe89ab2db19cd3fc90fe7cbffc6bbd8b568a3f2664e31c3b928b"), looks := true }, kinds := [], alts := [], laidByText := true, laidKinds := [.data, .data, .data, .sentinel, .sentinel, .listed, .data], laidTests := true, laidLooks := .later }
def AggNoneUptoCardSaid : Prop := Claim7.holds Tryz.pinned (.plain (OpenSpec.upto aggNoneSpec)) aggNoneUptoCard

/-- THE SECOND FORM's CARD OF 'cantonlaw11.AggTurned'. -/
def aggTurnedUptoCard : Claim7 := { stood := { row := aggTurnedUptoRow, standIns := [], harness := (true, "c682789716aafe89ab2db19cd3fc90fe7cbffc6bbd8b568a3f2664e31c3b928b"), looks := true }, kinds := [], alts := [], laidByText := true, laidKinds := [.data, .data, .data, .sentinel, .sentinel, .listed, .data], laidTests := true, laidLooks := .later }
def AggTurnedUptoCardSaid : Prop := Claim7.holds Tryz.pinned (.plain (OpenSpec.upto aggTurnedSpec)) aggTurnedUptoCard
end Rows
end Go.Proofs.YtcdijoaabbjioaaGreatDoor
