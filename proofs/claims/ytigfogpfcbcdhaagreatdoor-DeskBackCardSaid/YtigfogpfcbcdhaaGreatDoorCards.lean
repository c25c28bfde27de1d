/-
  DERIVED. GIVEN WITH THE SEED: THE CARDS: each row of YtigfogpfcbcdhaaGreatDoorRows.lean that lists a variable, with what it lists TIED to the program's text (the seventh form; the later family's looks); each row that meets fmt, with fmt's text TOLD by the authors' own Lean function (tested against real Go, not proved from fmt's source: count such statements apart). THE CARD IS WHAT COUNTS. Prove the row's statement (the work); the ties are given (YtigfogpfcbcdhaaGreatDoorTie.lean); close each card by the builder's one call (the guide's Derived/Test/ToyasCard.lean, 'card_holds'). Laid BY PROGRAM, IN A SANDBOX (cutbox-door.mjs). By AI agents, Wed Nov 11 2026. No macro, syntax, notation, axiom, sorry.
-/
import Derived.Test.YtigfogpfcbcdhaaGreatDoorRows
import GoSem.ClaimSeven
namespace Go.Proofs.YtigfogpfcbcdhaaGreatDoor
namespace Rows

/-- THE TIED CARD OF 'postmarklaw14.DeskParses'. -/
def deskParsesCard : Claim7 := { stood := { row := deskParsesRow, standIns := [], harness := (true, "137465a195fc672d3859c7edefee609f1f41c5dc60a18ca2b63b58dbb148f3fb"), looks := true }, kinds := [], alts := [], laidByText := true, laidKinds := [.data, .data, .data, .data, .sentinel, .sentinel, .pinned], laidTests := true, laidLooks := .later }
def DeskParsesCardSaid : Prop := Claim7.holds Tryz.pinned (.plain (OpenSpec.ofChange deskParsesSpec)) deskParsesCard

/-- THE TIED CARD OF 'postmarklaw14.DeskTexts'. -/
def deskTextsCard : Claim7 := { stood := { row := deskTextsRow, standIns := [], harness := (true, "137465a195fc672d3859c7edefee609f1f41c5dc60a18ca2b63b58dbb148f3fb"), looks := true }, kinds := [], alts := [], laidByText := true, laidKinds := [.data, .data, .data, .data, .sentinel, .sentinel, .pinned], laidTests := true, laidLooks := .later }
def DeskTextsCardSaid : Prop := Claim7.holds Tryz.pinned (.plain (OpenSpec.ofChange deskTextsSpec)) deskTextsCard

/-- THE TIED CARD OF 'postmarklaw14.DeskBack'. -/
def deskBackCard : Claim7 := { stood := { row := deskBackRow, standIns := [], harness := (true, "137465a195fc672d3859c7edefee609f1f41c5dc60a18ca2b63b58dbb148f3fb"), looks := true }, kinds := [], alts := [], laidByText := true, laidKinds := [.data, .data, .data, .data, .sentinel, .sentinel, .pinned], laidTests := true, laidLooks := .later }
def DeskBackCardSaid : Prop := Claim7.holds Tryz.pinned (.plain (OpenSpec.ofChange deskBackSpec)) deskBackCard

/-- THE TIED CARD OF 'postmarklaw14.DeskMany'. -/
def deskManyCard : Claim7 := { stood := { row := deskManyRow, standIns := [], harness := (true, "137465a195fc672d3859c7edefee609f1f41c5dc60a18ca2b63b58dbb148f3fb"), looks := true }, kinds := [], alts := [], laidByText := true, laidKinds := [.data, .data, .data, .data, .sentinel, .sentinel, .pinned], laidTests := true, laidLooks := .later }
def DeskManyCardSaid : Prop := Claim7.holds Tryz.pinned (.plain (OpenSpec.ofChange deskManySpec)) deskManyCard

/-- THE SECOND FORM's CARD OF 'postmarklaw14.DeskParses'. -/
def deskParsesUptoCard : Claim7 := { stood := { row := deskParsesUptoRow, standIns := [], harness := (true, "137465a195fc672d3859c7edefee609f1f41c5dc60a18ca2b63b58dbb148f3fb"), looks := true }, kinds := [], alts := [], laidByText := true, laidKinds := [.data, .data, .data, .data, .sentinel, .sentinel, .pinned], laidTests := true, laidLooks := .later }
def DeskParsesUptoCardSaid : Prop := Claim7.holds Tryz.pinned (.plain (OpenSpec.upto deskParsesSpec)) deskParsesUptoCard

/-- THE SECOND FORM's CARD OF 'postmarklaw14.DeskTexts'. -/
def deskTextsUptoCard : Claim7 := { stood := { row := deskTextsUptoRow, standIns := [], harness := (true, "137465a195fc672d3859c7edefee609f1f41c5dc60a18ca2b63b58dbb148f3fb"), looks := true }, kinds := [], alts := [], laidByText := true, laidKinds := [.data, .data, .data, .data, .sentinel, .sentinel, .pinned], laidTests := true, laidLooks := .later }
def DeskTextsUptoCardSaid : Prop := Claim7.holds Tryz.pinned (.plain (OpenSpec.upto deskTextsSpec)) deskTextsUptoCard

/-- THE SECOND FORM's CARD OF 'postmarklaw14.DeskBack'. -/
def deskBackUptoCard : Claim7 := { stood := { row := deskBackUptoRow, standIns := [], harness := (true, "137465a195fc672d3859c7edefee609f1f41c5dc60a18ca2b63b58dbb148f3fb"), looks := true }, kinds := [], alts := [], laidByText := true, laidKinds := [.data, .data, .data, .data, .sentinel, .sentinel, .pinned], laidTests := true, laidLooks := .later }
def DeskBackUptoCardSaid : Prop := Claim7.holds Tryz.pinned (.plain (OpenSpec.upto deskBackSpec)) deskBackUptoCard

/-- THE SECOND FORM's CARD OF 'postmarklaw14.DeskMany'. -/
def deskManyUptoCard : Claim7 := { stood := { row := deskManyUptoRow, standIns := [], harness := (true, "137465a195fc672d3859c7edefee609f1f41c5dc60a18ca2b63b58dbb148f3fb"), looks := true }, kinds := [], alts := [], laidByText := true, laidKinds := [.data, .data, .data, .data, .sentinel, .sentinel, .pinned], laidTests := true, laidLooks := .later }
def DeskManyUptoCardSaid : Prop := Claim7.holds Tryz.pinned (.plain (OpenSpec.upto deskManySpec)) deskManyUptoCard
end Rows
end Go.Proofs.YtigfogpfcbcdhaaGreatDoor
