/-
  DERIVED. GIVEN WITH THE SEED: THE CARDS: each row of YtcgfaagadejpmaaDoorRows.lean that lists a variable, with what it lists TIED to the program's text (the seventh form; the later family's looks); each row that meets fmt, with fmt's text TOLD by the authors' own Lean function (tested against real Go, not proved from fmt's source: count such statements apart). THE CARD IS WHAT COUNTS. Prove the row's statement (the work); the ties are given (YtcgfaagadejpmaaDoorTie.lean); close each card by the builder's one call (the guide's Derived/Test/ToyasCard.lean, 'card_holds'). Laid BY PROGRAM, IN A SANDBOX (cutbox-door.mjs). By AI agents, Wed Nov 11 2026. No macro, syntax, notation, axiom, sorry.
-/
import Derived.Test.YtcgfaagadejpmaaDoorRows
import GoSem.ClaimSeven
namespace Go.Proofs.YtcgfaagadejpmaaDoor
namespace Rows

/-- THE TIED CARD OF 'bulletinlaw48.ScriptMany'. -/
def scriptManyCard : Claim7 := { stood := { row := scriptManyRow, standIns := [], harness := (true, "abd58cbc19381ece38e769f510b509ae799f8c947e0065d046c3755ce90f2756"), looks := false }, kinds := [], alts := [], laidByText := true, laidKinds := [.data, .data, .data, .data, .data, .pinned], laidTests := true, laidLooks := .later }
def ScriptManyCardSaid : Prop := Claim7.holds Tryd.pinned (.plain (OpenSpec.ofChange scriptManySpec)) scriptManyCard

/-- THE TIED CARD OF 'bulletinlaw48.ScriptBack'. -/
def scriptBackCard : Claim7 := { stood := { row := scriptBackRow, standIns := [], harness := (true, "abd58cbc19381ece38e769f510b509ae799f8c947e0065d046c3755ce90f2756"), looks := false }, kinds := [], alts := [], laidByText := true, laidKinds := [.data, .data, .data, .data, .data, .pinned], laidTests := true, laidLooks := .later }
def ScriptBackCardSaid : Prop := Claim7.holds Tryd.pinned (.plain (OpenSpec.ofChange scriptBackSpec)) scriptBackCard

/-- THE TIED CARD OF 'bulletinlaw48.ScriptEscape'. -/
def scriptEscapeCard : Claim7 := { stood := { row := scriptEscapeRow, standIns := [], harness := (true, "abd58cbc19381ece38e769f510b509ae799f8c947e0065d046c3755ce90f2756"), looks := false }, kinds := [], alts := [], laidByText := true, laidKinds := [.data, .data, .data, .data, .data, .pinned], laidTests := true, laidLooks := .later }
def ScriptEscapeCardSaid : Prop := Claim7.holds Tryd.pinned (.plain (OpenSpec.ofChange scriptEscapeSpec)) scriptEscapeCard

/-- THE SECOND FORM's CARD OF 'bulletinlaw48.ScriptMany'. -/
def scriptManyUptoCard : Claim7 := { stood := { row := scriptManyUptoRow, standIns := [], harness := (true, "abd58cbc19381ece38e769f510b509ae799f8c947e0065d046c3755ce90f2756"), looks := false }, kinds := [], alts := [], laidByText := true, laidKinds := [.data, .data, .data, .data, .data, .pinned], laidTests := true, laidLooks := .later }
def ScriptManyUptoCardSaid : Prop := Claim7.holds Tryd.pinned (.plain (OpenSpec.upto scriptManySpec)) scriptManyUptoCard

/-- THE SECOND FORM's CARD OF 'bulletinlaw48.ScriptBack'. -/
def scriptBackUptoCard : Claim7 := { stood := { row := scriptBackUptoRow, standIns := [], harness := (true, "abd58cbc19381ece38e769f510b509ae799f8c947e0065d046c3755ce90f2756"), looks := false }, kinds := [], alts := [], laidByText := true, laidKinds := [.data, .data, .data, .data, .data, .pinned], laidTests := true, laidLooks := .later }
def ScriptBackUptoCardSaid : Prop := Claim7.holds Tryd.pinned (.plain (OpenSpec.upto scriptBackSpec)) scriptBackUptoCard

/-- THE SECOND FORM's CARD OF 'bulletinlaw48.ScriptEscape'. -/
def scriptEscapeUptoCard : Claim7 := { stood := { row := scriptEscapeUptoRow, standIns := [], harness := (true, "abd58cbc19381ece38e769f510b509ae799f8c947e0065d046c3755ce90f2756"), looks := false }, kinds := [], alts := [], laidByText := true, laidKinds := [.data, .data, .data, .data, .data, .pinned], laidTests := true, laidLooks := .later }
def ScriptEscapeUptoCardSaid : Prop := Claim7.holds Tryd.pinned (.plain (OpenSpec.upto scriptEscapeSpec)) scriptEscapeUptoCard
end Rows
end Go.Proofs.YtcgfaagadejpmaaDoor
