/- The lines of a text in plain Lean: what strings.Cut at a line's end gives of them. -/
import Derived.Test.YtigfogpfcbcdhaaGreatDoorDeskL
set_option linter.unusedVariables false
set_option linter.unusedSimpArgs false
namespace Go.Proofs.YtigfogpfcbcdhaaGreatDoor
namespace Dk
open Go.Lib
def linesA : Bs → Bs → List Bs
  | acc, [] => if acc = [] then [] else [acc]
  | acc, c :: t => if c = 10 then acc :: linesA [] t else linesA (acc ++ [c]) t
def linesL (l : Bs) : List Bs := linesA [] l
theorem linesA_plain : ∀ (p acc r : Bs), (10 : UInt8) ∉ p → linesA acc (p ++ r) = linesA (acc ++ p) r
  | [], acc, r, _ => by simp
  | c :: p, acc, r, h => by
    rw [List.mem_cons, not_or] at h
    rw [List.cons_append, linesA, if_neg (Ne.symm h.1), linesA_plain p _ r h.2]; simp
theorem lines_line {p : Bs} (h : (10 : UInt8) ∉ p) (r : Bs) : linesL (p ++ 10 :: r) = p :: linesL r := by
  unfold linesL
  rw [linesA_plain p [] _ h, linesA, if_pos rfl]; simp
theorem lines_last {p : Bs} (h : (10 : UInt8) ∉ p) (h0 : p ≠ []) : linesL p = [p] := by
  have := linesA_plain p [] [] h
  unfold linesL
  rw [List.append_nil] at this
  rw [this, linesA, if_neg (by simpa using h0)]; simp
theorem index_line (l : Bs) : (index l [10] = -1 ∧ (10 : UInt8) ∉ l) ∨ ∃ i : Nat, index l [10] = i ∧ i < l.length ∧ (10 : UInt8) ∉ l.take i ∧ l.drop i = 10 :: l.drop (i + 1) := by
  induction l with
  | nil => left; simp [index]
  | cons b l ih =>
    by_cases hb : b = 10
    · subst hb; right; exact ⟨0, by simp [index], by simp, by simp, rfl⟩
    · have hp : ([10] : Bs).isPrefixOf (b :: l) = false := by simp [List.isPrefixOf, Ne.symm hb]
      rcases ih with ⟨h1, h2⟩ | ⟨i, h1, h2, h3, h4⟩
      · left; exact ⟨by rw [index, hp, h1]; rfl, by simp [h2, Ne.symm hb]⟩
      · right
        refine ⟨i + 1, ?_, by simp [h2], by simp [h3, Ne.symm hb], h4⟩
        rw [index, hp, h1]
        have : ((i : Int) == -1) = false := by simp
        simp [this]
/-- strings.Cut at a line's end. -/
theorem cut_line {l : Bs} (h0 : l ≠ []) : linesL l = (cut l [10]).1 :: linesL (cut l [10]).2.1 ∧ (cut l [10]).2.1.length < l.length ∧ (cut l [10]).1.length ≤ l.length := by
  rcases index_line l with ⟨h1, h2⟩ | ⟨i, h1, h2, h3, h4⟩
  · have e : cut l [10] = (l, [], false) := by unfold cut; rw [h1]; rfl
    rw [e]
    exact ⟨by rw [lines_last h2 h0]; rfl, by simp; exact List.length_pos_iff.2 h0, Nat.le_refl _⟩
  · have e : cut l [10] = (l.take i, l.drop (i + 1), true) := by unfold cut; rw [h1, if_pos (by omega)]; simp
    have e2 : l = l.take i ++ 10 :: l.drop (i + 1) := by rw [← h4, List.take_append_drop]
    rw [e]
    refine ⟨?_, by simp; omega, by simp; omega⟩
    conv => lhs; rw [e2]
    exact lines_line h3 _
theorem lines_short : ∀ (l acc x : Bs), x ∈ linesA acc l → x.length ≤ acc.length + l.length
  | [], acc, x, h => by
    unfold linesA at h
    split at h
    · cases h
    · rw [List.mem_singleton] at h; subst h; simp
  | c :: t, acc, x, h => by
    unfold linesA at h
    split at h
    · rcases List.mem_cons.1 h with rfl | h
      · simp
      · have := lines_short t [] x h; simp at this ⊢; omega
    · have := lines_short t (acc ++ [c]) x h; simp at this ⊢; omega
theorem lines_many : ∀ (l acc : Bs), (linesA acc l).length ≤ l.length + 1
  | [], acc => by unfold linesA; split <;> simp
  | c :: t, acc => by
    unfold linesA
    split
    · have := lines_many t []; simp; omega
    · have := lines_many t (acc ++ [c]); simp; omega
end Dk
end Go.Proofs.YtigfogpfcbcdhaaGreatDoor
