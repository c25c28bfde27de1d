/- The walks of the desk's small functions: a word's form; a digit; whether a number may stand. No condition. -/
import Derived.Test.YtigfogpfcbcdhaaGreatDoorProg
import Derived.Test.YtigfogpfcbcdhaaGreatDoorWords
import Derived.Test.YtigfogpfcbcdhaaGreatDoorDeskR
import Derived.Outline
set_option linter.unusedVariables false
set_option linter.unusedSimpArgs false
namespace Go.Proofs.YtigfogpfcbcdhaaGreatDoor
open Go Go.RowKit
/-- What a word's form is answered as. -/
def formVal (l : List UInt8) : Value := match Dk.formL l with | some f => .tuple #[.string ⟨f.toArray⟩, .bool true] | none => .tuple #[.string ⟨#[]⟩, .bool false]
theorem formVal_some {l f : List UInt8} (h : Dk.formL l = some f) : formVal l = .tuple #[.string ⟨f.toArray⟩, .bool true] := by unfold formVal; rw [h]
theorem formVal_none {l : List UInt8} (h : Dk.formL l = none) : formVal l = .tuple #[.string ⟨#[]⟩, .bool false] := by unfold formVal; rw [h]
set_option maxHeartbeats 1000000 in
set_option maxRecDepth 100000 in
theorem form_any (s : ByteArray) (w : World) :
    Calls Tryz.prog 20 #[.string s] w fun e w' => e = .returned (formVal s.data.toList) ∧ w = w' := by
  obtain ⟨F, hF⟩ : ∃ F : List UInt8 → Value, F = formVal := ⟨_, rfl⟩
  rw [← hF]
  have HF := Lib.hid hF
  clear hF
  go_enter Tryz.func20, Tryz.ntmps20
  go_wp2_with fail
  all_goals
    go_ret2
    refine ⟨?_, rfl⟩
    congr 1
    rw [HF.out, ← Lib.toList_data]
    first
    | (rename_i h; rw [eq_of_beq h]; rfl)
    | (refine (formVal_none ?_).symm; simp_all [Dk.formL, Dk.table, Ne.symm])
end Go.Proofs.YtigfogpfcbcdhaaGreatDoor
