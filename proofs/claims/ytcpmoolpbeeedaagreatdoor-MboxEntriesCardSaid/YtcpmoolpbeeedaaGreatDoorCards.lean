/-
  DERIVED. GIVEN WITH THE SEED: THE CARDS: each row of YtcpmoolpbeeedaaGreatDoorRows.lean that lists a variable, with what it lists TIED to the program's text (the seventh form; the later family's looks); each row that meets fmt, with fmt's text TOLD by the authors' own Lean function (tested against real Go, not proved from fmt's source: count such statements apart). THE CARD IS WHAT COUNTS. Prove the row's statement (the work); the ties are given (YtcpmoolpbeeedaaGreatDoorTie.lean); close each card by the builder's one call (the guide's Derived/Test/ToyasCard.lean, 'card_holds'). Laid BY PROGRAM, IN A SANDBOX (cutbox-door.mjs). By AI agents, Wed Nov 11 2026. No macro, syntax, notation, axiom, sorry.
-/
import Derived.Test.YtcpmoolpbeeedaaGreatDoorRows
import GoSem.ClaimSeven
namespace Go.Proofs.YtcpmoolpbeeedaaGreatDoor
namespace Rows

/-- THE TIED CARD OF 'bulletinlaw23.MboxQuotes'. -/
def mboxQuotesCard : Claim7 := { stood := { row := mboxQuotesRow, standIns := [], harness := (true, "fe80035ad51805ee540f449b1f20aa176f94221d6316b4bf527c79b311a962be"), looks := false }, kinds := [], alts := [], laidByText := true, laidKinds := [.data, .data, .data, .data, .listed, .data, .data, .data, .data, .pinned], laidTests := true, laidLooks := .later }
def MboxQuotesCardSaid : Prop := Claim7.holds Tryz.pinned (.plain (OpenSpec.ofChange mboxQuotesSpec)) mboxQuotesCard

/-- THE TIED CARD OF 'bulletinlaw23.MboxEntries'. -/
def mboxEntriesCard : Claim7 := { stood := { row := mboxEntriesRow, standIns := [], harness := (true, "fe80035ad51805ee540f449b1f20aa176f94221d6316b4bf527c79b311a962be"), looks := false }, kinds := [], alts := [], laidByText := true, laidKinds := [.data, .data, .data, .data, .listed, .data, .data, .data, .data, .pinned], laidTests := true, laidLooks := .later }
def MboxEntriesCardSaid : Prop := Claim7.holds Tryz.pinned (.plain (OpenSpec.ofChange mboxEntriesSpec)) mboxEntriesCard

/-- THE TIED CARD OF 'bulletinlaw23.MboxSplits'. -/
def mboxSplitsCard : Claim7 := { stood := { row := mboxSplitsRow, standIns := [], harness := (true, "fe80035ad51805ee540f449b1f20aa176f94221d6316b4bf527c79b311a962be"), looks := false }, kinds := [], alts := [], laidByText := true, laidKinds := [.data, .data, .data, .data, .listed, .data, .data, .data, .data, .pinned], laidTests := true, laidLooks := .later }
def MboxSplitsCardSaid : Prop := Claim7.holds Tryz.pinned (.plain (OpenSpec.ofChange mboxSplitsSpec)) mboxSplitsCard

/-- THE TIED CARD OF 'bulletinlaw23.MboxBack'. -/
def mboxBackCard : Claim7 := { stood := { row := mboxBackRow, standIns := [], harness := (true, "fe80035ad51805ee540f449b1f20aa176f94221d6316b4bf527c79b311a962be"), looks := false }, kinds := [], alts := [], laidByText := true, laidKinds := [.data, .data, .data, .data, .listed, .data, .data, .data, .data, .pinned], laidTests := true, laidLooks := .later }
def MboxBackCardSaid : Prop := Claim7.holds Tryz.pinned (.plain (OpenSpec.ofChange mboxBackSpec)) mboxBackCard

/-- THE TIED CARD OF 'bulletinlaw23.MboxJust'. -/
def mboxJustCard : Claim7 := { stood := { row := mboxJustRow, standIns := [], harness := (true, "fe80035ad51805ee540f449b1f20aa176f94221d6316b4bf527c79b311a962be"), looks := false }, kinds := [], alts := [], laidByText := true, laidKinds := [.data, .data, .data, .data, .listed, .data, .data, .data, .data, .pinned], laidTests := true, laidLooks := .later }
def MboxJustCardSaid : Prop := Claim7.holds Tryz.pinned (.plain (OpenSpec.ofChange mboxJustSpec)) mboxJustCard

/-- THE TIED CARD OF 'bulletinlaw23.MboxQuoteBack'. -/
def mboxQuoteBackCard : Claim7 := { stood := { row := mboxQuoteBackRow, standIns := [], harness := (true, "fe80035ad51805ee540f449b1f20aa176f94221d6316b4bf527c79b311a962be"), looks := false }, kinds := [], alts := [], laidByText := true, laidKinds := [.data, .data, .data, .data, .listed, .data, .data, .data, .data, .pinned], laidTests := true, laidLooks := .later }
def MboxQuoteBackCardSaid : Prop := Claim7.holds Tryz.pinned (.plain (OpenSpec.ofChange mboxQuoteBackSpec)) mboxQuoteBackCard

/-- THE SECOND FORM's CARD OF 'bulletinlaw23.MboxQuotes'. -/
def mboxQuotesUptoCard : Claim7 := { stood := { row := mboxQuotesUptoRow, standIns := [], harness := (true, "fe80035ad51805ee540f449b1f20aa176f94221d6316b4bf527c79b311a962be"), looks := false }, kinds := [], alts := [], laidByText := true, laidKinds := [.data, .data, .data, .data, .listed, .data, .data, .data, .data, .pinned], laidTests := true, laidLooks := .later }
def MboxQuotesUptoCardSaid : Prop := Claim7.holds Tryz.pinned (.plain (OpenSpec.upto mboxQuotesSpec)) mboxQuotesUptoCard

/-- THE SECOND FORM's CARD OF 'bulletinlaw23.MboxEntries'. -/
def mboxEntriesUptoCard : Claim7 := { stood := { row := mboxEntriesUptoRow, standIns := [], harness := (true, "fe80035ad51805ee540f449b1f20aa176f94221d6316b4bf527c79b311a962be"), looks := false }, kinds := [], alts := [], laidByText := true, laidKinds := [.data, .data, .data, .data, .listed, .data, .data, .data, .data, .pinned], laidTests := true, laidLooks := .later }
def MboxEntriesUptoCardSaid : Prop := Claim7.holds Tryz.pinned (.plain (OpenSpec.upto mboxEntriesSpec)) mboxEntriesUptoCard

/-- THE SECOND FORM's CARD OF 'bulletinlaw23.MboxSplits'. -/
def mboxSplitsUptoCard : Claim7 := { stood := { row := mboxSplitsUptoRow, standIns := [], harness := (true, "fe80035ad51805ee540f449b1f20aa176f94221d6316b4bf527c79b311a962be"), looks := false }, kinds := [], alts := [], laidByText := true, laidKinds := [.data, .data, .data, .data, .listed, .data, .data, .data, .data, .pinned], laidTests := true, laidLooks := .later }
def MboxSplitsUptoCardSaid : Prop := Claim7.holds Tryz.pinned (.plain (OpenSpec.upto mboxSplitsSpec)) mboxSplitsUptoCard

/-- THE SECOND FORM's CARD OF 'bulletinlaw23.MboxBack'. -/
def mboxBackUptoCard : Claim7 := { stood := { row := mboxBackUptoRow, standIns := [], harness := (true, "fe80035ad51805ee540f449b1f20aa176f94221d6316b4bf527c79b311a962be"), looks := false }, kinds := [], alts := [], laidByText := true, laidKinds := [.data, .data, .data, .data, .listed, .data, .data, .data, .data, .pinned], laidTests := true, laidLooks := .later }
def MboxBackUptoCardSaid : Prop := Claim7.holds Tryz.pinned (.plain (OpenSpec.upto mboxBackSpec)) mboxBackUptoCard

/-- THE SECOND FORM's CARD OF 'bulletinlaw23.MboxJust'. -/
def mboxJustUptoCard : Claim7 := { stood := { row := mboxJustUptoRow, standIns := [], harness := (true, "fe80035ad51805ee540f449b1f20aa176f94221d6316b4bf527c79b311a962be"), looks := false }, kinds := [], alts := [], laidByText := true, laidKinds := [.data, .data, .data, .data, .listed, .data, .data, .data, .data, .pinned], laidTests := true, laidLooks := .later }
def MboxJustUptoCardSaid : Prop := Claim7.holds Tryz.pinned (.plain (OpenSpec.upto mboxJustSpec)) mboxJustUptoCard

/-- THE SECOND FORM's CARD OF 'bulletinlaw23.MboxQuoteBack'. -/
def mboxQuoteBackUptoCard : Claim7 := { stood := { row := mboxQuoteBackUptoRow, standIns := [], harness := (true, "fe80035ad51805ee540f449b1f20aa176f94221d6316b4bf527c79b311a962be"), looks := false }, kinds := [], alts := [], laidByText := true, laidKinds := [.data, .data, .data, .data, .listed, .data, .data, .data, .data, .pinned], laidTests := true, laidLooks := .later }
def MboxQuoteBackUptoCardSaid : Prop := Claim7.holds Tryz.pinned (.plain (OpenSpec.upto mboxQuoteBackSpec)) mboxQuoteBackUptoCard
end Rows
end Go.Proofs.YtcpmoolpbeeedaaGreatDoor
