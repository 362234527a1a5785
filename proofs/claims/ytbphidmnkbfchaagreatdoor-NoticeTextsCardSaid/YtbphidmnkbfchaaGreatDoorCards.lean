/-
  DERIVED. GIVEN WITH THE SEED: THE CARDS: each row of YtbphidmnkbfchaaGreatDoorRows.lean that lists a variable, with what it lists TIED to the program's text (the seventh form; the later family's looks); each row that meets fmt, with fmt's text TOLD by the authors' own Lean function (tested against real Go, not proved from fmt's source: count such statements apart). THE CARD IS WHAT COUNTS. Prove the row's statement (the work); the ties are given (YtbphidmnkbfchaaGreatDoorTie.lean); close each card by the builder's one call (the guide's Derived/Test/ToyasCard.lean, 'card_holds'). Laid BY PROGRAM, IN A SANDBOX (cutbox-door.mjs). By AI agents, Wed Nov 11 2026. No macro, syntax, notation, axiom, sorry.
-/
import Derived.Test.YtbphidmnkbfchaaGreatDoorRows
import GoSem.ClaimSeven
namespace Go.Proofs.YtbphidmnkbfchaaGreatDoor
namespace Rows

/-- THE TIED CARD OF 'consulatelaw12.NoticeUpdates'. -/
def noticeUpdatesCard : Claim7 := { stood := { row := noticeUpdatesRow, standIns := [], harness := (true, "97af0faed26972c396a14c7ceccd76357a02213924c5091b5610bc02ded0919e"), looks := true }, kinds := [], alts := [], laidByText := true, laidKinds := [.data, .data, .data, .data, .data, .data, .widerDeep, .data, .data, .widerDeep], laidTests := true, laidLooks := .later }
def NoticeUpdatesCardSaid : Prop := Claim7.holds Tryz.pinned (.plain (OpenSpec.ofChange noticeUpdatesSpec)) noticeUpdatesCard

/-- THE TIED CARD OF 'consulatelaw12.NoticeBack'. -/
def noticeBackCard : Claim7 := { stood := { row := noticeBackRow, standIns := [], harness := (true, "97af0faed26972c396a14c7ceccd76357a02213924c5091b5610bc02ded0919e"), looks := true }, kinds := [], alts := [], laidByText := true, laidKinds := [.data, .data, .data, .data, .data, .data, .widerDeep, .data, .data, .widerDeep], laidTests := true, laidLooks := .later }
def NoticeBackCardSaid : Prop := Claim7.holds Tryz.pinned (.plain (OpenSpec.ofChange noticeBackSpec)) noticeBackCard

/-- THE TIED CARD OF 'consulatelaw12.NoticeTexts'. -/
def noticeTextsCard : Claim7 := { stood := { row := noticeTextsRow, standIns := [], harness := (true, "97af0faed26972c396a14c7ceccd76357a02213924c5091b5610bc02ded0919e"), looks := true }, kinds := [], alts := [], laidByText := true, laidKinds := [.data, .data, .data, .data, .data, .data, .data, .sentinel, .sentinel, .widerDeep, .data, .data, .widerDeep, .pinned], laidTests := true, laidLooks := .later }
def NoticeTextsCardSaid : Prop := Claim7.holds Tryz.pinned (.plain (OpenSpec.ofChange noticeTextsSpec)) noticeTextsCard

/-- THE SECOND FORM's CARD OF 'consulatelaw12.NoticeUpdates'. -/
def noticeUpdatesUptoCard : Claim7 := { stood := { row := noticeUpdatesUptoRow, standIns := [], harness := (true, "97af0faed26972c396a14c7ceccd76357a02213924c5091b5610bc02ded0919e"), looks := true }, kinds := [], alts := [], laidByText := true, laidKinds := [.data, .data, .data, .data, .data, .data, .widerDeep, .data, .data, .widerDeep], laidTests := true, laidLooks := .later }
def NoticeUpdatesUptoCardSaid : Prop := Claim7.holds Tryz.pinned (.plain (OpenSpec.upto noticeUpdatesSpec)) noticeUpdatesUptoCard

/-- THE SECOND FORM's CARD OF 'consulatelaw12.NoticeBack'. -/
def noticeBackUptoCard : Claim7 := { stood := { row := noticeBackUptoRow, standIns := [], harness := (true, "97af0faed26972c396a14c7ceccd76357a02213924c5091b5610bc02ded0919e"), looks := true }, kinds := [], alts := [], laidByText := true, laidKinds := [.data, .data, .data, .data, .data, .data, .widerDeep, .data, .data, .widerDeep], laidTests := true, laidLooks := .later }
def NoticeBackUptoCardSaid : Prop := Claim7.holds Tryz.pinned (.plain (OpenSpec.upto noticeBackSpec)) noticeBackUptoCard

/-- THE SECOND FORM's CARD OF 'consulatelaw12.NoticeTexts'. -/
def noticeTextsUptoCard : Claim7 := { stood := { row := noticeTextsUptoRow, standIns := [], harness := (true, "97af0faed26972c396a14c7ceccd76357a02213924c5091b5610bc02ded0919e"), looks := true }, kinds := [], alts := [], laidByText := true, laidKinds := [.data, .data, .data, .data, .data, .data, .data, .sentinel, .sentinel, .widerDeep, .data, .data, .widerDeep, .pinned], laidTests := true, laidLooks := .later }
def NoticeTextsUptoCardSaid : Prop := Claim7.holds Tryz.pinned (.plain (OpenSpec.upto noticeTextsSpec)) noticeTextsUptoCard
end Rows
end Go.Proofs.YtbphidmnkbfchaaGreatDoor
