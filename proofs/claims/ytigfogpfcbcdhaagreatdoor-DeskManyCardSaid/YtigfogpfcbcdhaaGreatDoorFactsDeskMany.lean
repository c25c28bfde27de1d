/- The closed facts of DeskMany's row that follow the calls' road: each by itself (in one, the kernel has no room). -/
import Derived.Test.YtigfogpfcbcdhaaGreatDoorRows
import Derived.JoinedOf
import Derived.KernelRfl
set_option linter.unusedVariables false
set_option linter.unusedSimpArgs false
namespace Go.Proofs.YtigfogpfcbcdhaaGreatDoor
open Go
theorem deskMany_in : Tryz.prog.inPlace 6 = ["internal/bytealg.IndexByteString", "internal/bytealg.IndexString", "internal/abi.NoEscape", "internal/bytealg.Compare", "internal/bytealg.MakeNoZero", "internal/bytealg.abigen_runtime_cmpstring"] := by kernel_rfl
theorem deskMany_un : Tryz.prog.unfollowed 6 = true := by kernel_rfl
theorem deskMany_re : Tryz.prog.recurses 6 = true := by unfold Program.recurses; rw [deskMany_un, Bool.true_or]
theorem deskMany_na : Tryz.prog.varsNamed 6 = ["internal/bytealg.MaxLen", "strconv.ErrSyntax", "strconv.ErrRange", "internal/strconv.uint64pow10", "math/bits.deBruijn32tab", "math/bits.deBruijn64tab", "unicode/utf8.first", "unicode/utf8.acceptRanges"] := by kernel_rfl
end Go.Proofs.YtigfogpfcbcdhaaGreatDoor
