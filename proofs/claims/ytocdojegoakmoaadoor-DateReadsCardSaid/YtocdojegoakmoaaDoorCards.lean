/-
  DERIVED. GIVEN WITH THE SEED: THE CARDS: each row of YtocdojegoakmoaaDoorRows.lean that lists a variable, with what it lists TIED to the program's text (the seventh form; the later family's looks); each row that meets fmt, with fmt's text TOLD by the authors' own Lean function (tested against real Go, not proved from fmt's source: count such statements apart). THE CARD IS WHAT COUNTS. Prove the row's statement (the work); the ties are given (YtocdojegoakmoaaDoorTie.lean); close each card by the builder's one call (the guide's Derived/Test/ToyasCard.lean, 'card_holds'). Laid BY PROGRAM, IN A SANDBOX (cutbox-door.mjs). By AI agents, Wed Nov 11 2026. No macro, syntax, notation, axiom, sorry.
-/
import Derived.Test.YtocdojegoakmoaaDoorRows
import GoSem.ClaimSeven
namespace Go.Proofs.YtocdojegoakmoaaDoor
namespace Rows

/-- THE TIED CARD OF 'bulletinlaw22.DateWrites'. -/
def dateWritesCard : Claim7 := { stood := { row := dateWritesRow, standIns := [], harness := (true, "226a4e1b84cdbc311aa3c0de6747f7eafd6412908e620b4a225d0172364e97b3"), looks := false }, kinds := [], alts := [], laidByText := true, laidKinds := [.data, .data, .data, .data, .data, .data, .data, .pinned], laidTests := true, laidLooks := .later }
def DateWritesCardSaid : Prop := Claim7.holds Tryd.pinned (.plain (OpenSpec.ofChange dateWritesSpec)) dateWritesCard

/-- THE TIED CARD OF 'bulletinlaw22.DateReads'. -/
def dateReadsCard : Claim7 := { stood := { row := dateReadsRow, standIns := [], harness := (true, "226a4e1b84cdbc311aa3c0de6747f7eafd6412908e620b4a225d0172364e97b3"), looks := false }, kinds := [], alts := [], laidByText := true, laidKinds := [.data, .data, .data, .data, .data, .data, .data, .pinned], laidTests := true, laidLooks := .later }
def DateReadsCardSaid : Prop := Claim7.holds Tryd.pinned (.plain (OpenSpec.ofChange dateReadsSpec)) dateReadsCard

/-- THE TIED CARD OF 'bulletinlaw22.DateBack'. -/
def dateBackCard : Claim7 := { stood := { row := dateBackRow, standIns := [], harness := (true, "226a4e1b84cdbc311aa3c0de6747f7eafd6412908e620b4a225d0172364e97b3"), looks := false }, kinds := [], alts := [], laidByText := true, laidKinds := [.data, .data, .data, .data, .data, .data, .data, .pinned], laidTests := true, laidLooks := .later }
def DateBackCardSaid : Prop := Claim7.holds Tryd.pinned (.plain (OpenSpec.ofChange dateBackSpec)) dateBackCard

/-- THE TIED CARD OF 'bulletinlaw22.DateTimes'. -/
def dateTimesCard : Claim7 := { stood := { row := dateTimesRow, standIns := [], harness := (true, "226a4e1b84cdbc311aa3c0de6747f7eafd6412908e620b4a225d0172364e97b3"), looks := false }, kinds := [], alts := [], laidByText := true, laidKinds := [.data, .data, .data, .data, .data, .data, .data, .pinned], laidTests := true, laidLooks := .later }
def DateTimesCardSaid : Prop := Claim7.holds Tryd.pinned (.plain (OpenSpec.ofChange dateTimesSpec)) dateTimesCard

/-- THE TIED CARD OF 'bulletinlaw22.DateGoes'. -/
def dateGoesCard : Claim7 := { stood := { row := dateGoesRow, standIns := [], harness := (true, "226a4e1b84cdbc311aa3c0de6747f7eafd6412908e620b4a225d0172364e97b3"), looks := false }, kinds := [], alts := [], laidByText := true, laidKinds := [.data, .data, .data, .data, .data, .data, .data, .pinned], laidTests := true, laidLooks := .later }
def DateGoesCardSaid : Prop := Claim7.holds Tryd.pinned (.plain (OpenSpec.ofChange dateGoesSpec)) dateGoesCard

/-- THE SECOND FORM's CARD OF 'bulletinlaw22.DateWrites'. -/
def dateWritesUptoCard : Claim7 := { stood := { row := dateWritesUptoRow, standIns := [], harness := (true, "226a4e1b84cdbc311aa3c0de6747f7eafd6412908e620b4a225d0172364e97b3"), looks := false }, kinds := [], alts := [], laidByText := true, laidKinds := [.data, .data, .data, .data, .data, .data, .data, .pinned], laidTests := true, laidLooks := .later }
def DateWritesUptoCardSaid : Prop := Claim7.holds Tryd.pinned (.plain (OpenSpec.upto dateWritesSpec)) dateWritesUptoCard

/-- THE SECOND FORM's CARD OF 'bulletinlaw22.DateReads'. -/
def dateReadsUptoCard : Claim7 := { stood := { row := dateReadsUptoRow, standIns := [], harness := (true, "226a4e1b84cdbc311aa3c0de6747f7eafd6412908e620b4a225d0172364e97b3"), looks := false }, kinds := [], alts := [], laidByText := true, laidKinds := [.data, .data, .data, .data, .data, .data, .data, .pinned], laidTests := true, laidLooks := .later }
def DateReadsUptoCardSaid : Prop := Claim7.holds Tryd.pinned (.plain (OpenSpec.upto dateReadsSpec)) dateReadsUptoCard

/-- THE SECOND FORM's CARD OF 'bulletinlaw22.DateBack'. -/
def dateBackUptoCard : Claim7 := { stood := { row := dateBackUptoRow, standIns := [], harness := (true, "226a4e1b84cdbc311aa3c0de6747f7eafd6412908e620b4a225d0172364e97b3"), looks := false }, kinds := [], alts := [], laidByText := true, laidKinds := [.data, .data, .data, .data, .data, .data, .data, .pinned], laidTests := true, laidLooks := .later }
def DateBackUptoCardSaid : Prop := Claim7.holds Tryd.pinned (.plain (OpenSpec.upto dateBackSpec)) dateBackUptoCard

/-- THE SECOND FORM's CARD OF 'bulletinlaw22.DateTimes'. -/
def dateTimesUptoCard : Claim7 := { stood := { row := dateTimesUptoRow, standIns := [], harness := (true, "226a4e1b84cdbc311aa3c0de6747f7eafd6412908e620b4a225d0172364e97b3"), looks := false }, kinds := [], alts := [], laidByText := true, laidKinds := [.data, .data, .data, .data, .data, .data, .data, .pinned], laidTests := true, laidLooks := .later }
def DateTimesUptoCardSaid : Prop := Claim7.holds Tryd.pinned (.plain (OpenSpec.upto dateTimesSpec)) dateTimesUptoCard

/-- THE SECOND FORM's CARD OF 'bulletinlaw22.DateGoes'. -/
def dateGoesUptoCard : Claim7 := { stood := { row := dateGoesUptoRow, standIns := [], harness := (true, "226a4e1b84cdbc311aa3c0de6747f7eafd6412908e620b4a225d0172364e97b3"), looks := false }, kinds := [], alts := [], laidByText := true, laidKinds := [.data, .data, .data, .data, .data, .data, .data, .pinned], laidTests := true, laidLooks := .later }
def DateGoesUptoCardSaid : Prop := Claim7.holds Tryd.pinned (.plain (OpenSpec.upto dateGoesSpec)) dateGoesUptoCard
end Rows
end Go.Proofs.YtocdojegoakmoaaDoor
