/-
  DERIVED. GIVEN WITH THE SEED: THE CARDS: each row of YtgmppconibklcaaGreatDoorRows.lean that lists a variable, with what it lists TIED to the program's text (the seventh form; the later family's looks); each row that meets fmt, with fmt's text TOLD by the authors' own Lean function (tested against real Go, not proved from fmt's source: count such statements apart). THE CARD IS WHAT COUNTS. Prove the row's statement (the work); the ties are given (YtgmppconibklcaaGreatDoorTie.lean); close each card by the builder's one call (the guide's Derived/Test/ToyasCard.lean, 'card_holds'). Laid BY PROGRAM, IN A SANDBOX (cutbox-door.mjs). By AI agents, Wed Nov 11 2026. No macro, syntax, notation, axiom, sorry.
-/
import Derived.Test.YtgmppconibklcaaGreatDoorRows
import GoSem.ClaimSeven
namespace Go.Proofs.YtgmppconibklcaaGreatDoor
namespace Rows

/-- THE TIED CARD OF 'postmarklaw10.TspReqs'. -/
def tspReqsCard : Claim7 := { stood := { row := tspReqsRow, standIns := [], harness := (true, "e660e74d226774227726f1bb67788312319b6b8098fefc291b3c344c93c36a68"), looks := true }, kinds := [], alts := [], laidByText := true, laidKinds := [.data, .pinned], laidTests := true, laidLooks := .later }
def TspReqsCardSaid : Prop := Claim7.holds Tryz.pinned (.plain (OpenSpec.ofChange tspReqsSpec)) tspReqsCard

/-- THE TIED CARD OF 'postmarklaw10.TspResps'. -/
def tspRespsCard : Claim7 := { stood := { row := tspRespsRow, standIns := [], harness := (true, "e660e74d226774227726f1bb67788312319b6b8098fefc291b3c344c93c36a68"), looks := true }, kinds := [], alts := [], laidByText := true, laidKinds := [.data, .pinned], laidTests := true, laidLooks := .later }
def TspRespsCardSaid : Prop := Claim7.holds Tryz.pinned (.plain (OpenSpec.ofChange tspRespsSpec)) tspRespsCard

/-- THE TIED CARD OF 'postmarklaw10.TspBack'. -/
def tspBackCard : Claim7 := { stood := { row := tspBackRow, standIns := [], harness := (true, "e660e74d226774227726f1bb67788312319b6b8098fefc291b3c344c93c36a68"), looks := true }, kinds := [], alts := [], laidByText := true, laidKinds := [.data, .pinned], laidTests := true, laidLooks := .later }
def TspBackCardSaid : Prop := Claim7.holds Tryz.pinned (.plain (OpenSpec.ofChange tspBackSpec)) tspBackCard

/-- THE SECOND FORM's CARD OF 'postmarklaw10.TspReqs'. -/
def tspReqsUptoCard : Claim7 := { stood := { row := tspReqsUptoRow, standIns := [], harness := (true, "e660e74d226774227726f1bb67788312319b6b8098fefc291b3c344c93c36a68"), looks := true }, kinds := [], alts := [], laidByText := true, laidKinds := [.data, .pinned], laidTests := true, laidLooks := .later }
def TspReqsUptoCardSaid : Prop := Claim7.holds Tryz.pinned (.plain (OpenSpec.upto tspReqsSpec)) tspReqsUptoCard

/-- THE SECOND FORM's CARD OF 'postmarklaw10.TspResps'. -/
def tspRespsUptoCard : Claim7 := { stood := { row := tspRespsUptoRow, standIns := [], harness := (true, "e660e74d226774227726f1bb67788312319b6b8098fefc291b3c344c93c36a68"), looks := true }, kinds := [], alts := [], laidByText := true, laidKinds := [.data, .pinned], laidTests := true, laidLooks := .later }
def TspRespsUptoCardSaid : Prop := Claim7.holds Tryz.pinned (.plain (OpenSpec.upto tspRespsSpec)) tspRespsUptoCard

/-- THE SECOND FORM's CARD OF 'postmarklaw10.TspBack'. -/
def tspBackUptoCard : Claim7 := { stood := { row := tspBackUptoRow, standIns := [], harness := (true, "e660e74d226774227726f1bb67788312319b6b8098fefc291b3c344c93c36a68"), looks := true }, kinds := [], alts := [], laidByText := true, laidKinds := [.data, .pinned], laidTests := true, laidLooks := .later }
def TspBackUptoCardSaid : Prop := Claim7.holds Tryz.pinned (.plain (OpenSpec.upto tspBackSpec)) tspBackUptoCard
end Rows
end Go.Proofs.YtgmppconibklcaaGreatDoor
