/- The closed facts of DeskBack's row that follow the calls' road: each by itself (in one, the kernel has no room). -/
import Derived.Test.YtigfogpfcbcdhaaGreatDoorRows
import Derived.JoinedOf
import Derived.KernelRfl
set_option linter.unusedVariables false
set_option linter.unusedSimpArgs false
namespace Go.Proofs.YtigfogpfcbcdhaaGreatDoor
open Go
theorem deskBack_in : Tryz.prog.inPlace 5 = ["internal/bytealg.IndexByteString", "internal/bytealg.IndexString", "internal/abi.NoEscape", "internal/bytealg.Compare", "internal/bytealg.MakeNoZero", "internal/bytealg.abigen_runtime_cmpstring"] := by kernel_rfl
theorem deskBack_un : Tryz.prog.unfollowed 5 = true := by kernel_rfl
theorem deskBack_re : Tryz.prog.recurses 5 = true := by unfold Program.recurses; rw [deskBack_un, Bool.true_or]
theorem deskBack_na : Tryz.prog.varsNamed 5 = ["internal/bytealg.MaxLen", "strconv.ErrSyntax", "strconv.ErrRange", "internal/strconv.uint64pow10", "math/bits.deBruijn32tab", "math/bits.deBruijn64tab", "unicode/utf8.first", "unicode/utf8.acceptRanges"] := by kernel_rfl
end Go.Proofs.YtigfogpfcbcdhaaGreatDoor
