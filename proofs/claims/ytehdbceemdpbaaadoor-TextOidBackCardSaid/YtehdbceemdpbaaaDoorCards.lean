/-
  DERIVED. GIVEN WITH THE SEED: THE CARDS: each row of YtehdbceemdpbaaaDoorRows.lean that lists a variable, with what it lists TIED to the program's text (the seventh form; the later family's looks); each row that meets fmt, with fmt's text TOLD by the authors' own Lean function (tested against real Go, not proved from fmt's source: count such statements apart). THE CARD IS WHAT COUNTS. Prove the row's statement (the work); the ties are given (YtehdbceemdpbaaaDoorTie.lean); close each card by the builder's one call (the guide's Derived/Test/ToyasCard.lean, 'card_holds'). Laid BY PROGRAM, IN A SANDBOX (cutbox-door.mjs). By AI agents, Wed Nov 11 2026. No macro, syntax, notation, axiom, sorry.
-/
import Derived.Test.YtehdbceemdpbaaaDoorRows
import GoSem.ClaimSeven
namespace Go.Proofs.YtehdbceemdpbaaaDoor
namespace Rows

/-- THE TIED CARD OF 'postmarklaw02.TextFolds'. -/
def textFoldsCard : Claim7 := { stood := { row := textFoldsRow, standIns := [], harness := (true, "7b9c8a350e17212d7faa422408fa0861b2f37f69e17829f9e13e0a0ee6d8db51"), looks := false }, kinds := [], alts := [], laidByText := true, laidKinds := [.data, .pinned], laidTests := true, laidLooks := .later }
def TextFoldsCardSaid : Prop := Claim7.holds Tryd.pinned (.plain (OpenSpec.ofChange textFoldsSpec)) textFoldsCard

/-- THE TIED CARD OF 'postmarklaw02.TextOids'. -/
def textOidsCard : Claim7 := { stood := { row := textOidsRow, standIns := [], harness := (true, "7b9c8a350e17212d7faa422408fa0861b2f37f69e17829f9e13e0a0ee6d8db51"), looks := false }, kinds := [], alts := [], laidByText := true, laidKinds := [.data, .pinned], laidTests := true, laidLooks := .later }
def TextOidsCardSaid : Prop := Claim7.holds Tryd.pinned (.plain (OpenSpec.ofChange textOidsSpec)) textOidsCard

/-- THE TIED CARD OF 'postmarklaw02.TextTimes'. -/
def textTimesCard : Claim7 := { stood := { row := textTimesRow, standIns := [], harness := (true, "7b9c8a350e17212d7faa422408fa0861b2f37f69e17829f9e13e0a0ee6d8db51"), looks := false }, kinds := [], alts := [], laidByText := true, laidKinds := [.data, .pinned], laidTests := true, laidLooks := .later }
def TextTimesCardSaid : Prop := Claim7.holds Tryd.pinned (.plain (OpenSpec.ofChange textTimesSpec)) textTimesCard

/-- THE TIED CARD OF 'postmarklaw02.TextFolded'. -/
def textFoldedCard : Claim7 := { stood := { row := textFoldedRow, standIns := [], harness := (true, "7b9c8a350e17212d7faa422408fa0861b2f37f69e17829f9e13e0a0ee6d8db51"), looks := false }, kinds := [], alts := [], laidByText := true, laidKinds := [.data, .pinned], laidTests := true, laidLooks := .later }
def TextFoldedCardSaid : Prop := Claim7.holds Tryd.pinned (.plain (OpenSpec.ofChange textFoldedSpec)) textFoldedCard

/-- THE TIED CARD OF 'postmarklaw02.TextOrder'. -/
def textOrderCard : Claim7 := { stood := { row := textOrderRow, standIns := [], harness := (true, "7b9c8a350e17212d7faa422408fa0861b2f37f69e17829f9e13e0a0ee6d8db51"), looks := false }, kinds := [], alts := [], laidByText := true, laidKinds := [.data, .pinned], laidTests := true, laidLooks := .later }
def TextOrderCardSaid : Prop := Claim7.holds Tryd.pinned (.plain (OpenSpec.ofChange textOrderSpec)) textOrderCard

/-- THE TIED CARD OF 'postmarklaw02.TextDays'. -/
def textDaysCard : Claim7 := { stood := { row := textDaysRow, standIns := [], harness := (true, "7b9c8a350e17212d7faa422408fa0861b2f37f69e17829f9e13e0a0ee6d8db51"), looks := false }, kinds := [], alts := [], laidByText := true, laidKinds := [.data, .pinned], laidTests := true, laidLooks := .later }
def TextDaysCardSaid : Prop := Claim7.holds Tryd.pinned (.plain (OpenSpec.ofChange textDaysSpec)) textDaysCard

/-- THE TIED CARD OF 'postmarklaw02.TextSets'. -/
def textSetsCard : Claim7 := { stood := { row := textSetsRow, standIns := [], harness := (true, "7b9c8a350e17212d7faa422408fa0861b2f37f69e17829f9e13e0a0ee6d8db51"), looks := false }, kinds := [], alts := [], laidByText := true, laidKinds := [.data, .pinned], laidTests := true, laidLooks := .later }
def TextSetsCardSaid : Prop := Claim7.holds Tryd.pinned (.plain (OpenSpec.ofChange textSetsSpec)) textSetsCard

/-- THE TIED CARD OF 'postmarklaw02.TextBytes'. -/
def textBytesCard : Claim7 := { stood := { row := textBytesRow, standIns := [], harness := (true, "7b9c8a350e17212d7faa422408fa0861b2f37f69e17829f9e13e0a0ee6d8db51"), looks := false }, kinds := [], alts := [], laidByText := true, laidKinds := [.data, .pinned], laidTests := true, laidLooks := .later }
def TextBytesCardSaid : Prop := Claim7.holds Tryd.pinned (.plain (OpenSpec.ofChange textBytesSpec)) textBytesCard

/-- THE TIED CARD OF 'postmarklaw02.TextOidBack'. -/
def textOidBackCard : Claim7 := { stood := { row := textOidBackRow, standIns := [], harness := (true, "7b9c8a350e17212d7faa422408fa0861b2f37f69e17829f9e13e0a0ee6d8db51"), looks := false }, kinds := [], alts := [], laidByText := true, laidKinds := [.data, .pinned], laidTests := true, laidLooks := .later }
def TextOidBackCardSaid : Prop := Claim7.holds Tryd.pinned (.plain (OpenSpec.ofChange textOidBackSpec)) textOidBackCard

/-- THE TIED CARD OF 'postmarklaw02.TextParses'. -/
def textParsesCard : Claim7 := { stood := { row := textParsesRow, standIns := [], harness := (true, "7b9c8a350e17212d7faa422408fa0861b2f37f69e17829f9e13e0a0ee6d8db51"), looks := false }, kinds := [], alts := [], laidByText := true, laidKinds := [.data, .pinned], laidTests := true, laidLooks := .later }
def TextParsesCardSaid : Prop := Claim7.holds Tryd.pinned (.plain (OpenSpec.ofChange textParsesSpec)) textParsesCard

/-- THE TIED CARD OF 'postmarklaw02.TextTimeBack'. -/
def textTimeBackCard : Claim7 := { stood := { row := textTimeBackRow, standIns := [], harness := (true, "7b9c8a350e17212d7faa422408fa0861b2f37f69e17829f9e13e0a0ee6d8db51"), looks := false }, kinds := [], alts := [], laidByText := true, laidKinds := [.data, .pinned], laidTests := true, laidLooks := .later }
def TextTimeBackCardSaid : Prop := Claim7.holds Tryd.pinned (.plain (OpenSpec.ofChange textTimeBackSpec)) textTimeBackCard

/-- THE SECOND FORM's CARD OF 'postmarklaw02.TextFolds'. -/
def textFoldsUptoCard : Claim7 := { stood := { row := textFoldsUptoRow, standIns := [], harness := (true, "7b9c8a350e17212d7faa422408fa0861b2f37f69e17829f9e13e0a0ee6d8db51"), looks := false }, kinds := [], alts := [], laidByText := true, laidKinds := [.data, .pinned], laidTests := true, laidLooks := .later }
def TextFoldsUptoCardSaid : Prop := Claim7.holds Tryd.pinned (.plain (OpenSpec.upto textFoldsSpec)) textFoldsUptoCard

/-- THE SECOND FORM's CARD OF 'postmarklaw02.TextOids'. -/
def textOidsUptoCard : Claim7 := { stood := { row := textOidsUptoRow, standIns := [], harness := (true, "7b9c8a350e17212d7faa422408fa0861b2f37f69e17829f9e13e0a0ee6d8db51"), looks := false }, kinds := [], alts := [], laidByText := true, laidKinds := [.data, .pinned], laidTests := true, laidLooks := .later }
def TextOidsUptoCardSaid : Prop := Claim7.holds Tryd.pinned (.plain (OpenSpec.upto textOidsSpec)) textOidsUptoCard

/-- THE SECOND FORM's CARD OF 'postmarklaw02.TextTimes'. -/
def textTimesUptoCard : Claim7 := { stood := { row := textTimesUptoRow, standIns := [], harness := (true, "7b9c8a350e17212d7faa422408fa0861b2f37f69e17829f9e13e0a0ee6d8db51"), looks := false }, kinds := [], alts := [], laidByText := true, laidKinds := [.data, .pinned], laidTests := true, laidLooks := .later }
def TextTimesUptoCardSaid : Prop := Claim7.holds Tryd.pinned (.plain (OpenSpec.upto textTimesSpec)) textTimesUptoCard

/-- THE SECOND FORM's CARD OF 'postmarklaw02.TextFolded'. -/
def textFoldedUptoCard : Claim7 := { stood := { row := textFoldedUptoRow, standIns := [], harness := (true, "7b9c8a350e17212d7faa422408fa0861b2f37f69e17829f9e13e0a0ee6d8db51"), looks := false }, kinds := [], alts := [], laidByText := true, laidKinds := [.data, .pinned], laidTests := true, laidLooks := .later }
def TextFoldedUptoCardSaid : Prop := Claim7.holds Tryd.pinned (.plain (OpenSpec.upto textFoldedSpec)) textFoldedUptoCard

/-- THE SECOND FORM's CARD OF 'postmarklaw02.TextOrder'. -/
def textOrderUptoCard : Claim7 := { stood := { row := textOrderUptoRow, standIns := [], harness := (true, "7b9c8a350e17212d7faa422408fa0861b2f37f69e17829f9e13e0a0ee6d8db51"), looks := false }, kinds := [], alts := [], laidByText := true, laidKinds := [.data, .pinned], laidTests := true, laidLooks := .later }
def TextOrderUptoCardSaid : Prop := Claim7.holds Tryd.pinned (.plain (OpenSpec.upto textOrderSpec)) textOrderUptoCard

/-- THE SECOND FORM's CARD OF 'postmarklaw02.TextDays'. -/
def textDaysUptoCard : Claim7 := { stood := { row := textDaysUptoRow, standIns := [], harness := (true, "7b9c8a350e17212d7faa422408fa0861b2f37f69e17829f9e13e0a0ee6d8db51"), looks := false }, kinds := [], alts := [], laidByText := true, laidKinds := [.data, .pinned], laidTests := true, laidLooks := .later }
def TextDaysUptoCardSaid : Prop := Claim7.holds Tryd.pinned (.plain (OpenSpec.upto textDaysSpec)) textDaysUptoCard

/-- THE SECOND FORM's CARD OF 'postmarklaw02.TextSets'. -/
def textSetsUptoCard : Claim7 := { stood := { row := textSetsUptoRow, standIns := [], harness := (true, "7b9c8a350e17212d7faa422408fa0861b2f37f69e17829f9e13e0a0ee6d8db51"), looks := false }, kinds := [], alts := [], laidByText := true, laidKinds := [.data, .pinned], laidTests := true, laidLooks := .later }
def TextSetsUptoCardSaid : Prop := Claim7.holds Tryd.pinned (.plain (OpenSpec.upto textSetsSpec)) textSetsUptoCard

/-- THE SECOND FORM's CARD OF 'postmarklaw02.TextBytes'. -/
def textBytesUptoCard : Claim7 := { stood := { row := textBytesUptoRow, standIns := [], harness := (true, "7b9c8a350e17212d7faa422408fa0861b2f37f69e17829f9e13e0a0ee6d8db51"), looks := false }, kinds := [], alts := [], laidByText := true, laidKinds := [.data, .pinned], laidTests := true, laidLooks := .later }
def TextBytesUptoCardSaid : Prop := Claim7.holds Tryd.pinned (.plain (OpenSpec.upto textBytesSpec)) textBytesUptoCard

/-- THE SECOND FORM's CARD OF 'postmarklaw02.TextOidBack'. -/
def textOidBackUptoCard : Claim7 := { stood := { row := textOidBackUptoRow, standIns := [], harness := (true, "7b9c8a350e17212d7faa422408fa0861b2f37f69e17829f9e13e0a0ee6d8db51"), looks := false }, kinds := [], alts := [], laidByText := true, laidKinds := [.data, .pinned], laidTests := true, laidLooks := .later }
def TextOidBackUptoCardSaid : Prop := Claim7.holds Tryd.pinned (.plain (OpenSpec.upto textOidBackSpec)) textOidBackUptoCard

/-- THE SECOND FORM's CARD OF 'postmarklaw02.TextParses'. -/
def textParsesUptoCard : Claim7 := { stood := { row := textParsesUptoRow, standIns := [], harness := (true, "7b9c8a350e17212d7faa422408fa0861b2f37f69e17829f9e13e0a0ee6d8db51"), looks := false }, kinds := [], alts := [], laidByText := true, laidKinds := [.data, .pinned], laidTests := true, laidLooks := .later }
def TextParsesUptoCardSaid : Prop := Claim7.holds Tryd.pinned (.plain (OpenSpec.upto textParsesSpec)) textParsesUptoCard

/-- THE SECOND FORM's CARD OF 'postmarklaw02.TextTimeBack'. -/
def textTimeBackUptoCard : Claim7 := { stood := { row := textTimeBackUptoRow, standIns := [], harness := (true, "7b9c8a350e17212d7faa422408fa0861b2f37f69e17829f9e13e0a0ee6d8db51"), looks := false }, kinds := [], alts := [], laidByText := true, laidKinds := [.data, .pinned], laidTests := true, laidLooks := .later }
def TextTimeBackUptoCardSaid : Prop := Claim7.holds Tryd.pinned (.plain (OpenSpec.upto textTimeBackSpec)) textTimeBackUptoCard
end Rows
end Go.Proofs.YtehdbceemdpbaaaDoor
