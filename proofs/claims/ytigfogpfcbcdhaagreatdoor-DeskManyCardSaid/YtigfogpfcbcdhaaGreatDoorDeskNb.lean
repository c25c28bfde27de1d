/- The lines of a text that is a line many times, in plain Lean. -/
import Derived.Test.YtigfogpfcbcdhaaGreatDoorDeskN
set_option linter.unusedVariables false
namespace Go.Proofs.YtigfogpfcbcdhaaGreatDoor
namespace Dk
/-- A line, its end behind it, so many times. -/
def times (p : Bs) : Nat → Bs
  | 0 => []
  | n + 1 => p ++ 10 :: times p n
theorem times_snoc (p : Bs) : ∀ n, times p (n + 1) = times p n ++ (p ++ [10])
  | 0 => by simp [times]
  | n + 1 => by
    have h := times_snoc p n
    calc times p (n + 1 + 1) = p ++ 10 :: times p (n + 1) := rfl
      _ = p ++ 10 :: (times p n ++ (p ++ [10])) := by rw [h]
      _ = (p ++ 10 :: times p n) ++ (p ++ [10]) := by simp
      _ = times p (n + 1) ++ (p ++ [10]) := rfl
theorem times_length (p : Bs) : ∀ n, (times p n).length = n * (p.length + 1)
  | 0 => by simp [times]
  | n + 1 => by rw [times, List.length_append, List.length_cons, times_length p n, Nat.succ_mul]; omega
theorem lines_times {p : Bs} (h : (10 : UInt8) ∉ p) (t : Bs) : ∀ n, linesL (times p n ++ t) = List.replicate n p ++ linesL t
  | 0 => by simp [times]
  | n + 1 => by
    rw [times, List.append_assoc, List.cons_append, lines_line h, lines_times h t n, List.replicate_succ]; rfl
end Dk
end Go.Proofs.YtigfogpfcbcdhaaGreatDoor
