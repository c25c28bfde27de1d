/- Part of the proof of TspBack. No condition: lemmas alone. -/
import Derived.Test.YtgmppconibklcaaGreatDoorRows
import Derived.JoinedOf
import Derived.KernelRfl
set_option linter.unusedVariables false
set_option linter.unusedSimpArgs false
namespace Go.Proofs.YtgmppconibklcaaGreatDoor
open Go
theorem zeY:Tryz.prog.inPlace 5=["internal/bytealg.Compare","internal/bytealg.IndexByteString","internal/bytealg.IndexString","internal/bytealg.abigen_runtime_cmpstring","internal/abi.NoEscape","internal/bytealg.MakeNoZero"]:=by kernel_rfl
theorem z8w:Tryz.prog.unfollowed 5=true:=by kernel_rfl
theorem zeW:Tryz.prog.recurses 5=true:=by unfold Program.recurses;rw [z8w,Bool.true_or]
theorem zeX:Tryz.prog.varsNamed 5=["unicode/utf8.first","unicode/utf8.acceptRanges","internal/bytealg.MaxLen"]:=by kernel_rfl
end Go.Proofs.YtgmppconibklcaaGreatDoor

