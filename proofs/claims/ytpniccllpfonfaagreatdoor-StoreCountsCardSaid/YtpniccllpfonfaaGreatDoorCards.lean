/-
  DERIVED. GIVEN WITH THE SEED: THE CARDS: each row of YtpniccllpfonfaaGreatDoorRows.lean that lists a variable, with what it lists TIED to the program's text (the seventh form; the later family's looks); each row that meets fmt, with fmt's text TOLD by the authors' own Lean function (tested against real Go, not proved from fmt's source: count such statements apart). THE CARD IS WHAT COUNTS. Prove the row's statement (the work); the ties are given (YtpniccllpfonfaaGreatDoorTie.lean); close each card by the builder's one call (the guide's Derived/Test/ToyasCard.lean, 'card_holds'). Laid BY PROGRAM, IN A SANDBOX (cutbox-door.mjs). By AI agents, Wed Nov 11 2026. No macro, syntax, notation, axiom, sorry.
-/
import Derived.Test.YtpniccllpfonfaaGreatDoorRows
import GoSem.ClaimSeven
namespace Go.Proofs.YtpniccllpfonfaaGreatDoor
namespace Rows

/-- THE TIED CARD OF 'bulletinlaw37.StoreCounts'. -/
def storeCountsCard : Claim7 := { stood := { row := storeCountsRow, standIns := [], harness := (true, "61aa6043a50444d0843920a06c2978b0e60d3651814fb68b5bb6b1bddaf9c849"), looks := false }, kinds := [], alts := [], laidByText := true, laidKinds := [.data, .data, .data, .data, .pinned], laidTests := true, laidLooks := .later }
def StoreCountsCardSaid : Prop := Claim7.holds Tryz.pinned (.plain (OpenSpec.ofChange storeCountsSpec)) storeCountsCard

/-- THE TIED CARD OF 'bulletinlaw37.StoreMembers'. -/
def storeMembersCard : Claim7 := { stood := { row := storeMembersRow, standIns := [], harness := (true, "61aa6043a50444d0843920a06c2978b0e60d3651814fb68b5bb6b1bddaf9c849"), looks := false }, kinds := [], alts := [], laidByText := true, laidKinds := [.data, .data, .data, .data, .pinned], laidTests := true, laidLooks := .later }
def StoreMembersCardSaid : Prop := Claim7.holds Tryz.pinned (.plain (OpenSpec.ofChange storeMembersSpec)) storeMembersCard

/-- THE TIED CARD OF 'bulletinlaw37.StorePlays'. -/
def storePlaysCard : Claim7 := { stood := { row := storePlaysRow, standIns := [], harness := (true, "61aa6043a50444d0843920a06c2978b0e60d3651814fb68b5bb6b1bddaf9c849"), looks := false }, kinds := [], alts := [], laidByText := true, laidKinds := [.data, .data, .data, .data, .pinned], laidTests := true, laidLooks := .later }
def StorePlaysCardSaid : Prop := Claim7.holds Tryz.pinned (.plain (OpenSpec.ofChange storePlaysSpec)) storePlaysCard

/-- THE TIED CARD OF 'bulletinlaw37.StoreAll'. -/
def storeAllCard : Claim7 := { stood := { row := storeAllRow, standIns := [], harness := (true, "61aa6043a50444d0843920a06c2978b0e60d3651814fb68b5bb6b1bddaf9c849"), looks := false }, kinds := [], alts := [], laidByText := true, laidKinds := [.data, .data, .data, .data, .pinned], laidTests := true, laidLooks := .later }
def StoreAllCardSaid : Prop := Claim7.holds Tryz.pinned (.plain (OpenSpec.ofChange storeAllSpec)) storeAllCard

/-- THE TIED CARD OF 'bulletinlaw37.StoreKeys'. -/
def storeKeysCard : Claim7 := { stood := { row := storeKeysRow, standIns := [], harness := (true, "61aa6043a50444d0843920a06c2978b0e60d3651814fb68b5bb6b1bddaf9c849"), looks := false }, kinds := [], alts := [], laidByText := true, laidKinds := [.data, .data, .data, .data, .pinned], laidTests := true, laidLooks := .later }
def StoreKeysCardSaid : Prop := Claim7.holds Tryz.pinned (.plain (OpenSpec.ofChange storeKeysSpec)) storeKeysCard

/-- THE TIED CARD OF 'bulletinlaw37.StoreOrder'. -/
def storeOrderCard : Claim7 := { stood := { row := storeOrderRow, standIns := [], harness := (true, "61aa6043a50444d0843920a06c2978b0e60d3651814fb68b5bb6b1bddaf9c849"), looks := false }, kinds := [], alts := [], laidByText := true, laidKinds := [.data, .data, .data, .data, .pinned], laidTests := true, laidLooks := .later }
def StoreOrderCardSaid : Prop := Claim7.holds Tryz.pinned (.plain (OpenSpec.ofChange storeOrderSpec)) storeOrderCard

/-- THE SECOND FORM's CARD OF 'bulletinlaw37.StoreCounts'. -/
def storeCountsUptoCard : Claim7 := { stood := { row := storeCountsUptoRow, standIns := [], harness := (true, "61aa6043a50444d0843920a06c2978b0e60d3651814fb68b5bb6b1bddaf9c849"), looks := false }, kinds := [], alts := [], laidByText := true, laidKinds := [.data, .data, .data, .data, .pinned], laidTests := true, laidLooks := .later }
def StoreCountsUptoCardSaid : Prop := Claim7.holds Tryz.pinned (.plain (OpenSpec.upto storeCountsSpec)) storeCountsUptoCard

/-- THE SECOND FORM's CARD OF 'bulletinlaw37.StoreMembers'. -/
def storeMembersUptoCard : Claim7 := { stood := { row := storeMembersUptoRow, standIns := [], harness := (true, "61aa6043a50444d0843920a06c2978b0e60d3651814fb68b5bb6b1bddaf9c849"), looks := false }, kinds := [], alts := [], laidByText := true, laidKinds := [.data, .data, .data, .data, .pinned], laidTests := true, laidLooks := .later }
def StoreMembersUptoCardSaid : Prop := Claim7.holds Tryz.pinned (.plain (OpenSpec.upto storeMembersSpec)) storeMembersUptoCard

/-- THE SECOND FORM's CARD OF 'bulletinlaw37.StorePlays'. -/
def storePlaysUptoCard : Claim7 := { stood := { row := storePlaysUptoRow, standIns := [], harness := (true, "61aa6043a50444d0843920a06c2978b0e60d3651814fb68b5bb6b1bddaf9c849"), looks := false }, kinds := [], alts := [], laidByText := true, laidKinds := [.data, .data, .data, .data, .pinned], laidTests := true, laidLooks := .later }
def StorePlaysUptoCardSaid : Prop := Claim7.holds Tryz.pinned (.plain (OpenSpec.upto storePlaysSpec)) storePlaysUptoCard

/-- THE SECOND FORM's CARD OF 'bulletinlaw37.StoreAll'. -/
def storeAllUptoCard : Claim7 := { stood := { row := storeAllUptoRow, standIns := [], harness := (true, "61aa6043a50444d0843920a06c2978b0e60d3651814fb68b5bb6b1bddaf9c849"), looks := false }, kinds := [], alts := [], laidByText := true, laidKinds := [.data, .data, .data, .data, .pinned], laidTests := true, laidLooks := .later }
def StoreAllUptoCardSaid : Prop := Claim7.holds Tryz.pinned (.plain (OpenSpec.upto storeAllSpec)) storeAllUptoCard

/-- THE SECOND FORM's CARD OF 'bulletinlaw37.StoreKeys'. -/
def storeKeysUptoCard : Claim7 := { stood := { row := storeKeysUptoRow, standIns := [], harness := (true, "61aa6043a50444d0843920a06c2978b0e60d3651814fb68b5bb6b1bddaf9c849"), looks := false }, kinds := [], alts := [], laidByText := true, laidKinds := [.data, .data, .data, .data, .pinned], laidTests := true, laidLooks := .later }
def StoreKeysUptoCardSaid : Prop := Claim7.holds Tryz.pinned (.plain (OpenSpec.upto storeKeysSpec)) storeKeysUptoCard

/-- THE SECOND FORM's CARD OF 'bulletinlaw37.StoreOrder'. -/
def storeOrderUptoCard : Claim7 := { stood := { row := storeOrderUptoRow, standIns := [], harness := (true, "61aa6043a50444d0843920a06c2978b0e60d3651814fb68b5bb6b1bddaf9c849"), looks := false }, kinds := [], alts := [], laidByText := true, laidKinds := [.data, .data, .data, .data, .pinned], laidTests := true, laidLooks := .later }
def StoreOrderUptoCardSaid : Prop := Claim7.holds Tryz.pinned (.plain (OpenSpec.upto storeOrderSpec)) storeOrderUptoCard
end Rows
end Go.Proofs.YtpniccllpfonfaaGreatDoor
