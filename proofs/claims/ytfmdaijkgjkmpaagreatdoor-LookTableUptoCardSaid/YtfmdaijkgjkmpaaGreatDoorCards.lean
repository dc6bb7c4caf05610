/-
  DERIVED. GIVEN WITH THE SEED: THE CARDS: each row of YtfmdaijkgjkmpaaGreatDoorRows.lean that lists a variable, with what it lists TIED to the program's text (the seventh form; the later family's looks); each row that meets fmt, with fmt's text TOLD by the authors' own Lean function (tested against real Go, not proved from fmt's source: count such statements apart). THE CARD IS WHAT COUNTS. Prove the row's statement (the work); the ties are given (YtfmdaijkgjkmpaaGreatDoorTie.lean); close each card by the builder's one call (the guide's Derived/Test/ToyasCard.lean, 'card_holds'). Laid BY PROGRAM, IN A SANDBOX (cutbox-door.mjs). By AI agents, Wed Nov 11 2026. No macro, syntax, notation, axiom, sorry.
-/
import Derived.Test.YtfmdaijkgjkmpaaGreatDoorRows
import GoSem.ClaimSeven
namespace Go.Proofs.YtfmdaijkgjkmpaaGreatDoor
namespace Rows

/-- THE TIED CARD OF 'pinfoldlaw21.Answers'. -/
def answersCard : Claim7 := { stood := { row := answersRow, standIns := [], harness := (true, "356bbd0fd71157369ed8fdb1a774976f6a1ae3903a82b6aac7904c564078acd5"), looks := false }, kinds := [], alts := [], laidByText := true, laidKinds := [.data, .data, .data, .data, .pinned], laidTests := true, laidLooks := .later }
def AnswersCardSaid : Prop := Claim7.holds Tryz.pinned (.plain (OpenSpec.ofChange answersSpec)) answersCard

/-- THE TIED CARD OF 'pinfoldlaw21.AnswerTrue'. -/
def answerTrueCard : Claim7 := { stood := { row := answerTrueRow, standIns := [], harness := (true, "356bbd0fd71157369ed8fdb1a774976f6a1ae3903a82b6aac7904c564078acd5"), looks := false }, kinds := [], alts := [], laidByText := true, laidKinds := [.data, .data, .data, .data, .pinned], laidTests := true, laidLooks := .later }
def AnswerTrueCardSaid : Prop := Claim7.holds Tryz.pinned (.plain (OpenSpec.ofChange answerTrueSpec)) answerTrueCard

/-- THE TIED CARD OF 'pinfoldlaw21.AnswerForms'. -/
def answerFormsCard : Claim7 := { stood := { row := answerFormsRow, standIns := [], harness := (true, "356bbd0fd71157369ed8fdb1a774976f6a1ae3903a82b6aac7904c564078acd5"), looks := false }, kinds := [], alts := [], laidByText := true, laidKinds := [.data, .data, .data, .data, .pinned], laidTests := true, laidLooks := .later }
def AnswerFormsCardSaid : Prop := Claim7.holds Tryz.pinned (.plain (OpenSpec.ofChange answerFormsSpec)) answerFormsCard

/-- THE TIED CARD OF 'pinfoldlaw21.AnswerEcho'. -/
def answerEchoCard : Claim7 := { stood := { row := answerEchoRow, standIns := [], harness := (true, "356bbd0fd71157369ed8fdb1a774976f6a1ae3903a82b6aac7904c564078acd5"), looks := false }, kinds := [], alts := [], laidByText := true, laidKinds := [.data, .data, .data, .data, .pinned], laidTests := true, laidLooks := .later }
def AnswerEchoCardSaid : Prop := Claim7.holds Tryz.pinned (.plain (OpenSpec.ofChange answerEchoSpec)) answerEchoCard

/-- THE TIED CARD OF 'pinfoldlaw21.LookTable'. -/
def lookTableCard : Claim7 := { stood := { row := lookTableRow, standIns := [], harness := (true, "356bbd0fd71157369ed8fdb1a774976f6a1ae3903a82b6aac7904c564078acd5"), looks := false }, kinds := [], alts := [], laidByText := true, laidKinds := [.data, .data, .data, .data, .pinned], laidTests := true, laidLooks := .later }
def LookTableCardSaid : Prop := Claim7.holds Tryz.pinned (.plain (OpenSpec.ofChange lookTableSpec)) lookTableCard

/-- THE TIED CARD OF 'pinfoldlaw21.AnswerNever'. -/
def answerNeverCard : Claim7 := { stood := { row := answerNeverRow, standIns := [], harness := (true, "356bbd0fd71157369ed8fdb1a774976f6a1ae3903a82b6aac7904c564078acd5"), looks := false }, kinds := [], alts := [], laidByText := true, laidKinds := [.data, .data, .data, .data, .pinned], laidTests := true, laidLooks := .later }
def AnswerNeverCardSaid : Prop := Claim7.holds Tryz.pinned (.plain (OpenSpec.ofChange answerNeverSpec)) answerNeverCard

/-- THE SECOND FORM's CARD OF 'pinfoldlaw21.Answers'. -/
def answersUptoCard : Claim7 := { stood := { row := answersUptoRow, standIns := [], harness := (true, "356bbd0fd71157369ed8fdb1a774976f6a1ae3903a82b6aac7904c564078acd5"), looks := false }, kinds := [], alts := [], laidByText := true, laidKinds := [.data, .data, .data, .data, .pinned], laidTests := true, laidLooks := .later }
def AnswersUptoCardSaid : Prop := Claim7.holds Tryz.pinned (.plain (OpenSpec.upto answersSpec)) answersUptoCard

/-- THE SECOND FORM's CARD OF 'pinfoldlaw21.AnswerTrue'. -/
def answerTrueUptoCard : Claim7 := { stood := { row := answerTrueUptoRow, standIns := [], harness := (true, "356bbd0fd71157369ed8fdb1a774976f6a1ae3903a82b6aac7904c564078acd5"), looks := false }, kinds := [], alts := [], laidByText := true, laidKinds := [.data, .data, .data, .data, .pinned], laidTests := true, laidLooks := .later }
def AnswerTrueUptoCardSaid : Prop := Claim7.holds Tryz.pinned (.plain (OpenSpec.upto answerTrueSpec)) answerTrueUptoCard

/-- THE SECOND FORM's CARD OF 'pinfoldlaw21.AnswerForms'. -/
def answerFormsUptoCard : Claim7 := { stood := { row := answerFormsUptoRow, standIns := [], harness := (true, "356bbd0fd71157369ed8fdb1a774976f6a1ae3903a82b6aac7904c564078acd5"), looks := false }, kinds := [], alts := [], laidByText := true, laidKinds := [.data, .data, .data, .data, .pinned], laidTests := true, laidLooks := .later }
def AnswerFormsUptoCardSaid : Prop := Claim7.holds Tryz.pinned (.plain (OpenSpec.upto answerFormsSpec)) answerFormsUptoCard

/-- THE SECOND FORM's CARD OF 'pinfoldlaw21.AnswerEcho'. -/
def answerEchoUptoCard : Claim7 := { stood := { row := answerEchoUptoRow, standIns := [], harness := (true, "356bbd0fd71157369ed8fdb1a774976f6a1ae3903a82b6aac7904c564078acd5"), looks := false }, kinds := [], alts := [], laidByText := true, laidKinds := [.data, .data, .data, .data, .pinned], laidTests := true, laidLooks := .later }
def AnswerEchoUptoCardSaid : Prop := Claim7.holds Tryz.pinned (.plain (OpenSpec.upto answerEchoSpec)) answerEchoUptoCard

/-- THE SECOND FORM's CARD OF 'pinfoldlaw21.LookTable'. -/
def lookTableUptoCard : Claim7 := { stood := { row := lookTableUptoRow, standIns := [], harness := (true, "356bbd0fd71157369ed8fdb1a774976f6a1ae3903a82b6aac7904c564078acd5"), looks := false }, kinds := [], alts := [], laidByText := true, laidKinds := [.data, .data, .data, .data, .pinned], laidTests := true, laidLooks := .later }
def LookTableUptoCardSaid : Prop := Claim7.holds Tryz.pinned (.plain (OpenSpec.upto lookTableSpec)) lookTableUptoCard

/-- THE SECOND FORM's CARD OF 'pinfoldlaw21.AnswerNever'. -/
def answerNeverUptoCard : Claim7 := { stood := { row := answerNeverUptoRow, standIns := [], harness := (true, "356bbd0fd71157369ed8fdb1a774976f6a1ae3903a82b6aac7904c564078acd5"), looks := false }, kinds := [], alts := [], laidByText := true, laidKinds := [.data, .data, .data, .data, .pinned], laidTests := true, laidLooks := .later }
def AnswerNeverUptoCardSaid : Prop := Claim7.holds Tryz.pinned (.plain (OpenSpec.upto answerNeverSpec)) answerNeverUptoCard
end Rows
end Go.Proofs.YtfmdaijkgjkmpaaGreatDoor
