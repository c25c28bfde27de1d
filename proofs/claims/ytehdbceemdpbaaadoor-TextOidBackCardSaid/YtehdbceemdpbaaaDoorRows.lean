/-
  NARROWER THAN 'FOR EVERY INPUT', by the rows' own cells (each row's printed sentence says how): TextFolds: laid · TextOids: laid · TextTimes: laid · TextFolded: laid · TextOrder: laid · TextDays: laid · TextSets: laid · TextBytes: laid · TextOidBack: laid · TextParses: laid · TextTimeBack: laid.
  DERIVED. THE GIVEN ROWS OF THIS SEAT. 11 by the template 'for every input the law returns true; each argument reads behind the call as it read before'; 0 by the template 'total and deterministic' (their statements: YtehdbceemdpbaaaDoorTotals.lean).
  GIVEN WITH THE SEED: the statements are not yours to turn. If you find one false, say at which input.
  Laid BY PROGRAM, IN A SANDBOX (cutbox-rows.mjs): the forced cells as the released guide's own fill.sh prints them over the translation 4968be7ed28a11f2… (all of the seat's roots in one cut). By AI agents, Wed Nov 11 2026. No macro, syntax, notation, axiom, sorry.
-/
import Derived.Test.YtehdbceemdpbaaaDoorChecked
import GoSem.PinnedTables
import GoSem.Claim
import GoSem.ClaimJoined
import GoSem.ClaimMapViews
import Derived.JoinedTies
import Derived.KernelRfl
namespace Go.Proofs.YtehdbceemdpbaaaDoor
/- THE CELL 'sum', in the pinned program and in every row, IS THE sha256 OF THE DUMP (.gsa) THAT YtehdbceemdpbaaaDoorProg.lean LOADS. Nothing in Lean hashes anything: it is a label: what it is worth is what the hold of that sum in a sandbox is worth. -/
noncomputable def Tryd.pinned : Pinned := { name := "ytehdbceemdpbaaadoor", sum := "4968be7ed28a11f2063a9968fa5e431a2d8982c7736305d06aa9f14094327d71", checked := Tryd.checked }
namespace Rows
def none {H : Type} : Left H := { results := [], args := [] }

/- WHAT THE LISTED PACKAGE-LEVEL VARIABLES READ AS WHEN THE CALL BEGINS. Each datum BY PROGRAM (the guide's laid-datum.mjs) off the statement by which the dump's own 'gosem.cut.vars' lays the variable. In a bare row this is a premise. The card (YtehdbceemdpbaaaDoorCards.lean) ties it to the program's text. -/
def laid_unicode_utf8_acceptRanges {H : Type} : DataW H := .agg [.agg [.lit (.int .u8 128), .lit (.int .u8 191)], .agg [.lit (.int .u8 160), .lit (.int .u8 191)], .agg [.lit (.int .u8 128), .lit (.int .u8 159)], .agg [.lit (.int .u8 144), .lit (.int .u8 191)], .agg [.lit (.int .u8 128), .lit (.int .u8 143)], .agg [.lit (.int .u8 0), .lit (.int .u8 0)], .agg [.lit (.int .u8 0), .lit (.int .u8 0)], .agg [.lit (.int .u8 0), .lit (.int .u8 0)], .agg [.lit (.int .u8 0), .lit (.int .u8 0)], .agg [.lit (.int .u8 0), .lit (.int .u8 0)], .agg [.lit (.int .u8 0), .lit (.int .u8 0)], .agg [.lit (.int .u8 0), .lit (.int .u8 0)], .agg [.lit (.int .u8 0), .lit (.int .u8 0)], .agg [.lit (.int .u8 0), .lit (.int .u8 0)], .agg [.lit (.int .u8 0), .lit (.int .u8 0)], .agg [.lit (.int .u8 0), .lit (.int .u8 0)]]
/-- One of Go's own tables, pinned by name: the form's constant. -/
def laid_unicode_utf8_first : DataW Unit := Go.Pinned.utf8First

/-- 'postmarklaw02.TextFolds': WHATEVER THE INPUT: true; the input reads as it did. -/
def textFoldsSpec : ChangeSpec := { name := "textFolds", fn := fun _ => fun
  | [d] => { results := [.lit (.bool true)], args := [d] }
  | _ => none }
def textFoldsRow : OpenClaim := { program := "ytehdbceemdpbaaadoor", sum := "4968be7ed28a11f2063a9968fa5e431a2d8982c7736305d06aa9f14094327d71", func := "postmark/postmarklaw02.TextFolds", spec := "textFolds", inPlace := ["internal/abi.NoEscape", "internal/bytealg.IndexByteString", "internal/bytealg.IndexString"], unfollowed := true, recurses := true, named := ["unicode/utf8.first", "unicode/utf8.acceptRanges", "internal/bytealg.MaxLen"], apart := false, laid := [("unicode/utf8.acceptRanges", laid_unicode_utf8_acceptRanges), ("unicode/utf8.first", laid_unicode_utf8_first)] }
def TextFoldsSaid : Prop := textFoldsRow.holds Tryd.pinned (OpenSpec.ofChange textFoldsSpec)

/-- ITS FALSE NEIGHBOUR: 'it returns false'. Refute it at one input. -/
def textFoldsWrong : ChangeSpec := { name := "textFolds", fn := fun _ => fun
  | [d] => { results := [.lit (.bool false)], args := [d] }
  | _ => none }
def TextFoldsWrongFalsely : Prop := textFoldsRow.holds Tryd.pinned (OpenSpec.ofChange textFoldsWrong)

/-- 'postmarklaw02.TextOids': WHATEVER THE INPUT: true; the input reads as it did. -/
def textOidsSpec : ChangeSpec := { name := "textOids", fn := fun _ => fun
  | [d] => { results := [.lit (.bool true)], args := [d] }
  | _ => none }
def textOidsRow : OpenClaim := { program := "ytehdbceemdpbaaadoor", sum := "4968be7ed28a11f2063a9968fa5e431a2d8982c7736305d06aa9f14094327d71", func := "postmark/postmarklaw02.TextOids", spec := "textOids", inPlace := ["internal/bytealg.IndexByteString", "internal/bytealg.IndexString", "internal/abi.NoEscape"], unfollowed := true, recurses := true, named := ["unicode/utf8.first", "unicode/utf8.acceptRanges", "internal/bytealg.MaxLen"], apart := false, laid := [("unicode/utf8.acceptRanges", laid_unicode_utf8_acceptRanges), ("unicode/utf8.first", laid_unicode_utf8_first)] }
def TextOidsSaid : Prop := textOidsRow.holds Tryd.pinned (OpenSpec.ofChange textOidsSpec)

/-- ITS FALSE NEIGHBOUR: 'it returns false'. Refute it at one input. -/
def textOidsWrong : ChangeSpec := { name := "textOids", fn := fun _ => fun
  | [d] => { results := [.lit (.bool false)], args := [d] }
  | _ => none }
def TextOidsWrongFalsely : Prop := textOidsRow.holds Tryd.pinned (OpenSpec.ofChange textOidsWrong)

/-- 'postmarklaw02.TextTimes': WHATEVER THE INPUT: true; the input reads as it did. -/
def textTimesSpec : ChangeSpec := { name := "textTimes", fn := fun _ => fun
  | [d1, d2] => { results := [.lit (.bool true)], args := [d1, d2] }
  | _ => none }
def textTimesRow : OpenClaim := { program := "ytehdbceemdpbaaadoor", sum := "4968be7ed28a11f2063a9968fa5e431a2d8982c7736305d06aa9f14094327d71", func := "postmark/postmarklaw02.TextTimes", spec := "textTimes", inPlace := ["internal/bytealg.IndexByteString", "internal/bytealg.IndexString", "internal/abi.NoEscape"], unfollowed := true, recurses := true, named := ["unicode/utf8.first", "unicode/utf8.acceptRanges", "internal/bytealg.MaxLen"], apart := false, laid := [("unicode/utf8.acceptRanges", laid_unicode_utf8_acceptRanges), ("unicode/utf8.first", laid_unicode_utf8_first)] }
def TextTimesSaid : Prop := textTimesRow.holds Tryd.pinned (OpenSpec.ofChange textTimesSpec)

/-- ITS FALSE NEIGHBOUR: 'it returns false'. Refute it at one input. -/
def textTimesWrong : ChangeSpec := { name := "textTimes", fn := fun _ => fun
  | [d1, d2] => { results := [.lit (.bool false)], args := [d1, d2] }
  | _ => none }
def TextTimesWrongFalsely : Prop := textTimesRow.holds Tryd.pinned (OpenSpec.ofChange textTimesWrong)

/-- 'postmarklaw02.TextFolded': WHATEVER THE INPUT: true; the input reads as it did. -/
def textFoldedSpec : ChangeSpec := { name := "textFolded", fn := fun _ => fun
  | [d1, d2] => { results := [.lit (.bool true)], args := [d1, d2] }
  | _ => none }
def textFoldedRow : OpenClaim := { program := "ytehdbceemdpbaaadoor", sum := "4968be7ed28a11f2063a9968fa5e431a2d8982c7736305d06aa9f14094327d71", func := "postmark/postmarklaw02.TextFolded", spec := "textFolded", inPlace := ["internal/bytealg.IndexByteString", "internal/bytealg.IndexString", "internal/abi.NoEscape"], unfollowed := true, recurses := true, named := ["unicode/utf8.first", "unicode/utf8.acceptRanges", "internal/bytealg.MaxLen"], apart := false, laid := [("unicode/utf8.acceptRanges", laid_unicode_utf8_acceptRanges), ("unicode/utf8.first", laid_unicode_utf8_first)] }
def TextFoldedSaid : Prop := textFoldedRow.holds Tryd.pinned (OpenSpec.ofChange textFoldedSpec)

/-- ITS FALSE NEIGHBOUR: 'it returns false'. Refute it at one input. -/
def textFoldedWrong : ChangeSpec := { name := "textFolded", fn := fun _ => fun
  | [d1, d2] => { results := [.lit (.bool false)], args := [d1, d2] }
  | _ => none }
def TextFoldedWrongFalsely : Prop := textFoldedRow.holds Tryd.pinned (OpenSpec.ofChange textFoldedWrong)

/-- 'postmarklaw02.TextOrder': WHATEVER THE INPUT: true; the input reads as it did. -/
def textOrderSpec : ChangeSpec := { name := "textOrder", fn := fun _ => fun
  | [d1, d2] => { results := [.lit (.bool true)], args := [d1, d2] }
  | _ => none }
def textOrderRow : OpenClaim := { program := "ytehdbceemdpbaaadoor", sum := "4968be7ed28a11f2063a9968fa5e431a2d8982c7736305d06aa9f14094327d71", func := "postmark/postmarklaw02.TextOrder", spec := "textOrder", inPlace := ["internal/bytealg.IndexByteString", "internal/bytealg.IndexString", "internal/abi.NoEscape"], unfollowed := true, recurses := true, named := ["unicode/utf8.first", "unicode/utf8.acceptRanges", "internal/bytealg.MaxLen"], apart := false, laid := [("unicode/utf8.acceptRanges", laid_unicode_utf8_acceptRanges), ("unicode/utf8.first", laid_unicode_utf8_first)] }
def TextOrderSaid : Prop := textOrderRow.holds Tryd.pinned (OpenSpec.ofChange textOrderSpec)

/-- ITS FALSE NEIGHBOUR: 'it returns false'. Refute it at one input. -/
def textOrderWrong : ChangeSpec := { name := "textOrder", fn := fun _ => fun
  | [d1, d2] => { results := [.lit (.bool false)], args := [d1, d2] }
  | _ => none }
def TextOrderWrongFalsely : Prop := textOrderRow.holds Tryd.pinned (OpenSpec.ofChange textOrderWrong)

/-- 'postmarklaw02.TextDays': WHATEVER THE INPUT: true; the input reads as it did. -/
def textDaysSpec : ChangeSpec := { name := "textDays", fn := fun _ => fun
  | [d] => { results := [.lit (.bool true)], args := [d] }
  | _ => none }
def textDaysRow : OpenClaim := { program := "ytehdbceemdpbaaadoor", sum := "4968be7ed28a11f2063a9968fa5e431a2d8982c7736305d06aa9f14094327d71", func := "postmark/postmarklaw02.TextDays", spec := "textDays", inPlace := ["internal/bytealg.IndexByteString", "internal/bytealg.IndexString", "internal/abi.NoEscape"], unfollowed := true, recurses := true, named := ["unicode/utf8.first", "unicode/utf8.acceptRanges", "internal/bytealg.MaxLen"], apart := false, laid := [("unicode/utf8.acceptRanges", laid_unicode_utf8_acceptRanges), ("unicode/utf8.first", laid_unicode_utf8_first)] }
def TextDaysSaid : Prop := textDaysRow.holds Tryd.pinned (OpenSpec.ofChange textDaysSpec)

/-- ITS FALSE NEIGHBOUR: 'it returns false'. Refute it at one input. -/
def textDaysWrong : ChangeSpec := { name := "textDays", fn := fun _ => fun
  | [d] => { results := [.lit (.bool false)], args := [d] }
  | _ => none }
def TextDaysWrongFalsely : Prop := textDaysRow.holds Tryd.pinned (OpenSpec.ofChange textDaysWrong)

/-- 'postmarklaw02.TextSets': WHATEVER THE INPUT: true; the input reads as it did. -/
def textSetsSpec : ChangeSpec := { name := "textSets", fn := fun _ => fun
  | [d] => { results := [.lit (.bool true)], args := [d] }
  | _ => none }
def textSetsRow : OpenClaim := { program := "ytehdbceemdpbaaadoor", sum := "4968be7ed28a11f2063a9968fa5e431a2d8982c7736305d06aa9f14094327d71", func := "postmark/postmarklaw02.TextSets", spec := "textSets", inPlace := ["internal/bytealg.IndexByteString", "internal/bytealg.IndexString", "internal/abi.NoEscape"], unfollowed := true, recurses := true, named := ["unicode/utf8.first", "unicode/utf8.acceptRanges", "internal/bytealg.MaxLen"], apart := false, laid := [("unicode/utf8.acceptRanges", laid_unicode_utf8_acceptRanges), ("unicode/utf8.first", laid_unicode_utf8_first)] }
def TextSetsSaid : Prop := textSetsRow.holds Tryd.pinned (OpenSpec.ofChange textSetsSpec)

/-- ITS FALSE NEIGHBOUR: 'it returns false'. Refute it at one input. -/
def textSetsWrong : ChangeSpec := { name := "textSets", fn := fun _ => fun
  | [d] => { results := [.lit (.bool false)], args := [d] }
  | _ => none }
def TextSetsWrongFalsely : Prop := textSetsRow.holds Tryd.pinned (OpenSpec.ofChange textSetsWrong)

/-- 'postmarklaw02.TextBytes': WHATEVER THE INPUT: true; the input reads as it did. -/
def textBytesSpec : ChangeSpec := { name := "textBytes", fn := fun _ => fun
  | [d] => { results := [.lit (.bool true)], args := [d] }
  | _ => none }
def textBytesRow : OpenClaim := { program := "ytehdbceemdpbaaadoor", sum := "4968be7ed28a11f2063a9968fa5e431a2d8982c7736305d06aa9f14094327d71", func := "postmark/postmarklaw02.TextBytes", spec := "textBytes", inPlace := ["internal/bytealg.IndexByteString", "internal/bytealg.IndexString", "internal/abi.NoEscape"], unfollowed := true, recurses := true, named := ["unicode/utf8.first", "unicode/utf8.acceptRanges", "internal/bytealg.MaxLen"], apart := false, laid := [("unicode/utf8.acceptRanges", laid_unicode_utf8_acceptRanges), ("unicode/utf8.first", laid_unicode_utf8_first)] }
def TextBytesSaid : Prop := textBytesRow.holds Tryd.pinned (OpenSpec.ofChange textBytesSpec)

/-- ITS FALSE NEIGHBOUR: 'it returns false'. Refute it at one input. -/
def textBytesWrong : ChangeSpec := { name := "textBytes", fn := fun _ => fun
  | [d] => { results := [.lit (.bool false)], args := [d] }
  | _ => none }
def TextBytesWrongFalsely : Prop := textBytesRow.holds Tryd.pinned (OpenSpec.ofChange textBytesWrong)

/-- 'postmarklaw02.TextOidBack': WHATEVER THE INPUT: true; the input reads as it did. -/
def textOidBackSpec : ChangeSpec := { name := "textOidBack", fn := fun _ => fun
  | [d1, d2] => { results := [.lit (.bool true)], args := [d1, d2] }
  | _ => none }
def textOidBackRow : OpenClaim := { program := "ytehdbceemdpbaaadoor", sum := "4968be7ed28a11f2063a9968fa5e431a2d8982c7736305d06aa9f14094327d71", func := "postmark/postmarklaw02.TextOidBack", spec := "textOidBack", inPlace := ["internal/bytealg.IndexByteString", "internal/bytealg.IndexString", "internal/abi.NoEscape"], unfollowed := true, recurses := true, named := ["unicode/utf8.first", "unicode/utf8.acceptRanges", "internal/bytealg.MaxLen"], apart := false, laid := [("unicode/utf8.acceptRanges", laid_unicode_utf8_acceptRanges), ("unicode/utf8.first", laid_unicode_utf8_first)] }
def TextOidBackSaid : Prop := textOidBackRow.holds Tryd.pinned (OpenSpec.ofChange textOidBackSpec)

/-- ITS FALSE NEIGHBOUR: 'it returns false'. Refute it at one input. -/
def textOidBackWrong : ChangeSpec := { name := "textOidBack", fn := fun _ => fun
  | [d1, d2] => { results := [.lit (.bool false)], args := [d1, d2] }
  | _ => none }
def TextOidBackWrongFalsely : Prop := textOidBackRow.holds Tryd.pinned (OpenSpec.ofChange textOidBackWrong)

/-- 'postmarklaw02.TextParses': WHATEVER THE INPUT: true; the input reads as it did. -/
def textParsesSpec : ChangeSpec := { name := "textParses", fn := fun _ => fun
  | [d] => { results := [.lit (.bool true)], args := [d] }
  | _ => none }
def textParsesRow : OpenClaim := { program := "ytehdbceemdpbaaadoor", sum := "4968be7ed28a11f2063a9968fa5e431a2d8982c7736305d06aa9f14094327d71", func := "postmark/postmarklaw02.TextParses", spec := "textParses", inPlace := ["internal/bytealg.IndexByteString", "internal/bytealg.IndexString", "internal/abi.NoEscape"], unfollowed := true, recurses := true, named := ["unicode/utf8.first", "unicode/utf8.acceptRanges", "internal/bytealg.MaxLen"], apart := false, laid := [("unicode/utf8.acceptRanges", laid_unicode_utf8_acceptRanges), ("unicode/utf8.first", laid_unicode_utf8_first)] }
def TextParsesSaid : Prop := textParsesRow.holds Tryd.pinned (OpenSpec.ofChange textParsesSpec)

/-- ITS FALSE NEIGHBOUR: 'it returns false'. Refute it at one input. -/
def textParsesWrong : ChangeSpec := { name := "textParses", fn := fun _ => fun
  | [d] => { results := [.lit (.bool false)], args := [d] }
  | _ => none }
def TextParsesWrongFalsely : Prop := textParsesRow.holds Tryd.pinned (OpenSpec.ofChange textParsesWrong)

/-- 'postmarklaw02.TextTimeBack': WHATEVER THE INPUT: true; the input reads as it did. -/
def textTimeBackSpec : ChangeSpec := { name := "textTimeBack", fn := fun _ => fun
  | [d1, d2, d3] => { results := [.lit (.bool true)], args := [d1, d2, d3] }
  | _ => none }
def textTimeBackRow : OpenClaim := { program := "ytehdbceemdpbaaadoor", sum := "4968be7ed28a11f2063a9968fa5e431a2d8982c7736305d06aa9f14094327d71", func := "postmark/postmarklaw02.TextTimeBack", spec := "textTimeBack", inPlace := ["internal/bytealg.IndexByteString", "internal/bytealg.IndexString", "internal/abi.NoEscape"], unfollowed := true, recurses := true, named := ["unicode/utf8.first", "unicode/utf8.acceptRanges", "internal/bytealg.MaxLen"], apart := false, laid := [("unicode/utf8.acceptRanges", laid_unicode_utf8_acceptRanges), ("unicode/utf8.first", laid_unicode_utf8_first)] }
def TextTimeBackSaid : Prop := textTimeBackRow.holds Tryd.pinned (OpenSpec.ofChange textTimeBackSpec)

/-- ITS FALSE NEIGHBOUR: 'it returns false'. Refute it at one input. -/
def textTimeBackWrong : ChangeSpec := { name := "textTimeBack", fn := fun _ => fun
  | [d1, d2, d3] => { results := [.lit (.bool false)], args := [d1, d2, d3] }
  | _ => none }
def TextTimeBackWrongFalsely : Prop := textTimeBackRow.holds Tryd.pinned (OpenSpec.ofChange textTimeBackWrong)

/- THE SECOND FORM. 'bulk': how many values and letters a reading holds, each counted each time it is reached (what is shared counts as often as it is met; a slice's spare places count too). A statement '..UptoSaid' is the law's where the arguments, and the package variables that the reading takes, are together of bulk at most 1048576: NARROWER than '..Said'. Prove '..Said' where nothing that the law and all that it calls make is longer than what came in: it says more and counts as full. Else prove '..UptoSaid'. A law counts once. -/
mutual
def uptoBulk {H : Type} : DataW H → Nat
  | .lit (.string bytes) => bytes.length + 1
  | .lit _ => 1
  | .nil => 1
  | .ptr d => uptoBulk d + 1
  | .slice elems spare => uptoBulkAll elems + uptoBulkAll spare + 1
  | .agg parts => uptoBulkAll parts + 1
  | .iface _ d => uptoBulk d + 1
  | .map entries => uptoBulkEntries entries + 1
  | .held _ => 1
def uptoBulkAll {H : Type} : List (DataW H) → Nat
  | [] => 0
  | d :: r => uptoBulk d + uptoBulkAll r
def uptoBulkEntries {H : Type} : List (Lit × DataW H) → Nat
  | [] => 0
  | x :: r => uptoBulkEntry x + uptoBulkEntries r
def uptoBulkEntry {H : Type} : Lit × DataW H → Nat
  | (.string bytes, d) => bytes.length + uptoBulk d + 1
  | (_, d) => uptoBulk d + 1
 end
def uptoSmall : (H : Type) → List (DataW H) → Bool := fun _ ds => decide (uptoBulkAll ds ≤ 1048576)
def OpenSpec.upto (s : _root_.Go.ChangeSpec) : _root_.Go.OpenSpec := { _root_.Go.OpenSpec.ofChange s with cond := some uptoSmall }

/-- 'postmarklaw02.TextFolds', WHERE WHAT IT READS IS OF BULK AT MOST 1048576: true; the input reads as it did. -/
def textFoldsUptoRow : OpenClaim := { program := "ytehdbceemdpbaaadoor", sum := "4968be7ed28a11f2063a9968fa5e431a2d8982c7736305d06aa9f14094327d71", func := "postmark/postmarklaw02.TextFolds", spec := "textFolds", inPlace := ["internal/abi.NoEscape", "internal/bytealg.IndexByteString", "internal/bytealg.IndexString"], unfollowed := true, recurses := true, named := ["unicode/utf8.first", "unicode/utf8.acceptRanges", "internal/bytealg.MaxLen"], apart := false, laid := [("unicode/utf8.acceptRanges", laid_unicode_utf8_acceptRanges), ("unicode/utf8.first", laid_unicode_utf8_first)], narrowed := true }
def TextFoldsUptoSaid : Prop := textFoldsUptoRow.holds Tryd.pinned (OpenSpec.upto textFoldsSpec)

/-- 'postmarklaw02.TextOids', WHERE WHAT IT READS IS OF BULK AT MOST 1048576: true; the input reads as it did. -/
def textOidsUptoRow : OpenClaim := { program := "ytehdbceemdpbaaadoor", sum := "4968be7ed28a11f2063a9968fa5e431a2d8982c7736305d06aa9f14094327d71", func := "postmark/postmarklaw02.TextOids", spec := "textOids", inPlace := ["internal/bytealg.IndexByteString", "internal/bytealg.IndexString", "internal/abi.NoEscape"], unfollowed := true, recurses := true, named := ["unicode/utf8.first", "unicode/utf8.acceptRanges", "internal/bytealg.MaxLen"], apart := false, laid := [("unicode/utf8.acceptRanges", laid_unicode_utf8_acceptRanges), ("unicode/utf8.first", laid_unicode_utf8_first)], narrowed := true }
def TextOidsUptoSaid : Prop := textOidsUptoRow.holds Tryd.pinned (OpenSpec.upto textOidsSpec)

/-- 'postmarklaw02.TextTimes', WHERE WHAT IT READS IS OF BULK AT MOST 1048576: true; the input reads as it did. -/
def textTimesUptoRow : OpenClaim := { program := "ytehdbceemdpbaaadoor", sum := "4968be7ed28a11f2063a9968fa5e431a2d8982c7736305d06aa9f14094327d71", func := "postmark/postmarklaw02.TextTimes", spec := "textTimes", inPlace := ["internal/bytealg.IndexByteString", "internal/bytealg.IndexString", "internal/abi.NoEscape"], unfollowed := true, recurses := true, named := ["unicode/utf8.first", "unicode/utf8.acceptRanges", "internal/bytealg.MaxLen"], apart := false, laid := [("unicode/utf8.acceptRanges", laid_unicode_utf8_acceptRanges), ("unicode/utf8.first", laid_unicode_utf8_first)], narrowed := true }
def TextTimesUptoSaid : Prop := textTimesUptoRow.holds Tryd.pinned (OpenSpec.upto textTimesSpec)

/-- 'postmarklaw02.TextFolded', WHERE WHAT IT READS IS OF BULK AT MOST 1048576: true; the input reads as it did. -/
def textFoldedUptoRow : OpenClaim := { program := "ytehdbceemdpbaaadoor", sum := "4968be7ed28a11f2063a9968fa5e431a2d8982c7736305d06aa9f14094327d71", func := "postmark/postmarklaw02.TextFolded", spec := "textFolded", inPlace := ["internal/bytealg.IndexByteString", "internal/bytealg.IndexString", "internal/abi.NoEscape"], unfollowed := true, recurses := true, named := ["unicode/utf8.first", "unicode/utf8.acceptRanges", "internal/bytealg.MaxLen"], apart := false, laid := [("unicode/utf8.acceptRanges", laid_unicode_utf8_acceptRanges), ("unicode/utf8.first", laid_unicode_utf8_first)], narrowed := true }
def TextFoldedUptoSaid : Prop := textFoldedUptoRow.holds Tryd.pinned (OpenSpec.upto textFoldedSpec)

/-- 'postmarklaw02.TextOrder', WHERE WHAT IT READS IS OF BULK AT MOST 1048576: true; the input reads as it did. -/
def textOrderUptoRow : OpenClaim := { program := "ytehdbceemdpbaaadoor", sum := "4968be7ed28a11f2063a9968fa5e431a2d8982c7736305d06aa9f14094327d71", func := "postmark/postmarklaw02.TextOrder", spec := "textOrder", inPlace := ["internal/bytealg.IndexByteString", "internal/bytealg.IndexString", "internal/abi.NoEscape"], unfollowed := true, recurses := true, named := ["unicode/utf8.first", "unicode/utf8.acceptRanges", "internal/bytealg.MaxLen"], apart := false, laid := [("unicode/utf8.acceptRanges", laid_unicode_utf8_acceptRanges), ("unicode/utf8.first", laid_unicode_utf8_first)], narrowed := true }
def TextOrderUptoSaid : Prop := textOrderUptoRow.holds Tryd.pinned (OpenSpec.upto textOrderSpec)

/-- 'postmarklaw02.TextDays', WHERE WHAT IT READS IS OF BULK AT MOST 1048576: true; the input reads as it did. -/
def textDaysUptoRow : OpenClaim := { program := "ytehdbceemdpbaaadoor", sum := "4968be7ed28a11f2063a9968fa5e431a2d8982c7736305d06aa9f14094327d71", func := "postmark/postmarklaw02.TextDays", spec := "textDays", inPlace := ["internal/bytealg.IndexByteString", "internal/bytealg.IndexString", "internal/abi.NoEscape"], unfollowed := true, recurses := true, named := ["unicode/utf8.first", "unicode/utf8.acceptRanges", "internal/bytealg.MaxLen"], apart := false, laid := [("unicode/utf8.acceptRanges", laid_unicode_utf8_acceptRanges), ("unicode/utf8.first", laid_unicode_utf8_first)], narrowed := true }
def TextDaysUptoSaid : Prop := textDaysUptoRow.holds Tryd.pinned (OpenSpec.upto textDaysSpec)

/-- 'postmarklaw02.TextSets', WHERE WHAT IT READS IS OF BULK AT MOST 1048576: true; the input reads as it did. -/
def textSetsUptoRow : OpenClaim := { program := "ytehdbceemdpbaaadoor", sum := "4968be7ed28a11f2063a9968fa5e431a2d8982c7736305d06aa9f14094327d71", func := "postmark/postmarklaw02.TextSets", spec := "textSets", inPlace := ["internal/bytealg.IndexByteString", "internal/bytealg.IndexString", "internal/abi.NoEscape"], unfollowed := true, recurses := true, named := ["unicode/utf8.first", "unicode/utf8.acceptRanges", "internal/bytealg.MaxLen"], apart := false, laid := [("unicode/utf8.acceptRanges", laid_unicode_utf8_acceptRanges), ("unicode/utf8.first", laid_unicode_utf8_first)], narrowed := true }
def TextSetsUptoSaid : Prop := textSetsUptoRow.holds Tryd.pinned (OpenSpec.upto textSetsSpec)

/-- 'postmarklaw02.TextBytes', WHERE WHAT IT READS IS OF BULK AT MOST 1048576: true; the input reads as it did. -/
def textBytesUptoRow : OpenClaim := { program := "ytehdbceemdpbaaadoor", sum := "4968be7ed28a11f2063a9968fa5e431a2d8982c7736305d06aa9f14094327d71", func := "postmark/postmarklaw02.TextBytes", spec := "textBytes", inPlace := ["internal/bytealg.IndexByteString", "internal/bytealg.IndexString", "internal/abi.NoEscape"], unfollowed := true, recurses := true, named := ["unicode/utf8.first", "unicode/utf8.acceptRanges", "internal/bytealg.MaxLen"], apart := false, laid := [("unicode/utf8.acceptRanges", laid_unicode_utf8_acceptRanges), ("unicode/utf8.first", laid_unicode_utf8_first)], narrowed := true }
def TextBytesUptoSaid : Prop := textBytesUptoRow.holds Tryd.pinned (OpenSpec.upto textBytesSpec)

/-- 'postmarklaw02.TextOidBack', WHERE WHAT IT READS IS OF BULK AT MOST 1048576: true; the input reads as it did. -/
def textOidBackUptoRow : OpenClaim := { program := "ytehdbceemdpbaaadoor", sum := "4968be7ed28a11f2063a9968fa5e431a2d8982c7736305d06aa9f14094327d71", func := "postmark/postmarklaw02.TextOidBack", spec := "textOidBack", inPlace := ["internal/bytealg.IndexByteString", "internal/bytealg.IndexString", "internal/abi.NoEscape"], unfollowed := true, recurses := true, named := ["unicode/utf8.first", "unicode/utf8.acceptRanges", "internal/bytealg.MaxLen"], apart := false, laid := [("unicode/utf8.acceptRanges", laid_unicode_utf8_acceptRanges), ("unicode/utf8.first", laid_unicode_utf8_first)], narrowed := true }
def TextOidBackUptoSaid : Prop := textOidBackUptoRow.holds Tryd.pinned (OpenSpec.upto textOidBackSpec)

/-- 'postmarklaw02.TextParses', WHERE WHAT IT READS IS OF BULK AT MOST 1048576: true; the input reads as it did. -/
def textParsesUptoRow : OpenClaim := { program := "ytehdbceemdpbaaadoor", sum := "4968be7ed28a11f2063a9968fa5e431a2d8982c7736305d06aa9f14094327d71", func := "postmark/postmarklaw02.TextParses", spec := "textParses", inPlace := ["internal/bytealg.IndexByteString", "internal/bytealg.IndexString", "internal/abi.NoEscape"], unfollowed := true, recurses := true, named := ["unicode/utf8.first", "unicode/utf8.acceptRanges", "internal/bytealg.MaxLen"], apart := false, laid := [("unicode/utf8.acceptRanges", laid_unicode_utf8_acceptRanges), ("unicode/utf8.first", laid_unicode_utf8_first)], narrowed := true }
def TextParsesUptoSaid : Prop := textParsesUptoRow.holds Tryd.pinned (OpenSpec.upto textParsesSpec)

/-- 'postmarklaw02.TextTimeBack', WHERE WHAT IT READS IS OF BULK AT MOST 1048576: true; the input reads as it did. -/
def textTimeBackUptoRow : OpenClaim := { program := "ytehdbceemdpbaaadoor", sum := "4968be7ed28a11f2063a9968fa5e431a2d8982c7736305d06aa9f14094327d71", func := "postmark/postmarklaw02.TextTimeBack", spec := "textTimeBack", inPlace := ["internal/bytealg.IndexByteString", "internal/bytealg.IndexString", "internal/abi.NoEscape"], unfollowed := true, recurses := true, named := ["unicode/utf8.first", "unicode/utf8.acceptRanges", "internal/bytealg.MaxLen"], apart := false, laid := [("unicode/utf8.acceptRanges", laid_unicode_utf8_acceptRanges), ("unicode/utf8.first", laid_unicode_utf8_first)], narrowed := true }
def TextTimeBackUptoSaid : Prop := textTimeBackUptoRow.holds Tryd.pinned (OpenSpec.upto textTimeBackSpec)

end Rows
end Go.Proofs.YtehdbceemdpbaaaDoor
