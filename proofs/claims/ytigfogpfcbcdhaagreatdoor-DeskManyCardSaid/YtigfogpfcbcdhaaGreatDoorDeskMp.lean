/- Many lines, and what they answer: plain Lean. -/
import Derived.Test.YtigfogpfcbcdhaaGreatDoorDeskNb
import Derived.Test.YtigfogpfcbcdhaaGreatDoorDeskZ
set_option linter.unusedVariables false
set_option linter.unusedSimpArgs false
namespace Go.Proofs.YtigfogpfcbcdhaaGreatDoor
open Go Go.RowKit
namespace Dk
def startL : Bs := [115, 116, 97, 114, 116]
def okL : Bs := [111, 107]
def errL : Bs := [101, 114, 114, 111, 114, 32, 49, 50, 48]
/-- The script: so many starts, and at will a line that is none. -/
def manyS (k : Nat) (en : Bool) : Bs := times startL k ++ (if en then [120] else [])
def manyN (k : Nat) (en : Bool) : Nat := if en then k + 1 else k
/-- What so many of its lines answer. -/
def manyO (k i : Nat) : Bs := if i ≤ k then times okL i else times okL k ++ (errL ++ [10])
def manyL (k : Nat) (en : Bool) : List Bs := List.replicate k startL ++ (if en then [[120]] else [])
def manyR (k : Nat) (en : Bool) : List Bs := List.replicate k okL ++ (if en then [errL] else [])
theorem manyS_lines (k : Nat) (en : Bool) : linesL (manyS k en) = manyL k en := by
  unfold manyS manyL
  rw [lines_times (by decide)]
  cases en
  · rfl
  · rfl
theorem manyO_lines (k : Nat) (en : Bool) : linesL (manyO k (manyN k en)) = manyR k en := by
  unfold manyO manyN manyR
  cases en
  · simp only [Bool.false_eq_true, if_false, Nat.le_refl, if_true]
    have := lines_times (p := okL) (by decide) [] k
    rw [List.append_nil] at this
    rw [this]; rfl
  · simp only [if_true]
    rw [if_neg (by omega), lines_times (by decide)]
    rfl
theorem manyL_length (k : Nat) (en : Bool) : (manyL k en).length = manyN k en := by
  unfold manyL manyN; cases en <;> simp
theorem manyR_length (k : Nat) (en : Bool) : (manyR k en).length = manyN k en := by
  unfold manyR manyN; cases en <;> simp
theorem manyR_ok {k j : Nat} (en : Bool) (h : j < k) : (manyR k en)[j]? = some okL := by
  unfold manyR
  rw [List.getElem?_append_left (by simpa using h)]
  simp [h]
theorem manyR_err (k : Nat) : (manyR k true)[k]? = some errL := by
  unfold manyR
  rw [List.getElem?_append_right (by simp)]
  simp
theorem manyO_short {k i : Nat} (h : k ≤ 1100) : (manyO k i).length ≤ 4000 := by
  unfold manyO
  split
  · rw [times_length, show okL.length + 1 = 3 from rfl]
    omega
  · have e : (errL ++ [10]).length = 10 := rfl
    rw [List.length_append, times_length, show okL.length + 1 = 3 from rfl, e]
    omega
theorem start_line : lineOf startL = some ⟨startL, [], []⟩ := by kernel_rfl
theorem x_line : lineOf [120] = none := by kernel_rfl
end Dk
theorem many_lines {s : ByteArray} {k : Nat} {en : Bool} (hs : s.data.toList = Dk.manyS k en) : linesS s = (Dk.manyL k en).map mkS := by
  unfold linesS; rw [hs, Dk.manyS_lines]
theorem many_deeds {s : ByteArray} {k : Nat} {en : Bool} (hs : s.data.toList = Dk.manyS k en) :
    ∀ i (h : i < (linesS s).length), ∃ a, Deed ((linesS s)[i].data.toList) none none a ∧ Dk.manyO k (i + 1) = Dk.manyO k i ++ a ++ [10] ∧ ((none : Option (List UInt8)) = none ∨ i = 0) := by
  intro i h
  have hl := many_lines hs
  have hn : (linesS s).length = Dk.manyN k en := by rw [hl, List.length_map, Dk.manyL_length]
  have hg : (linesS s)[i].data.toList = ((Dk.manyL k en)[i]'(by rw [Dk.manyL_length]; omega)) := by
    simp only [hl, List.getElem_map]; rfl
  rw [hg]
  by_cases hi : i < k
  · have e : (Dk.manyL k en)[i]'(by rw [Dk.manyL_length]; omega) = Dk.startL := by
      unfold Dk.manyL
      rw [List.getElem_append_left (by simpa using hi)]
      simp
    rw [e]
    refine ⟨Dk.okL, .play _ Dk.start_line (.start none), ?_, .inl rfl⟩
    unfold Dk.manyO
    rw [if_pos (by omega), if_pos (by omega), Dk.times_snoc]
    simp
  · cases en with
    | false => unfold Dk.manyN at hn; simp at hn; omega
    | true =>
      unfold Dk.manyN at hn
      simp at hn
      obtain rfl : i = k := by omega
      have e : (Dk.manyL i true)[i]'(by rw [Dk.manyL_length]; exact Nat.lt_succ_self i) = [120] := by
        unfold Dk.manyL
        rw [List.getElem_append_right (by simp)]
        simp
      rw [e]
      refine ⟨Dk.errL, .bad Dk.x_line rfl (by kernel_rfl), ?_, .inl rfl⟩
      unfold Dk.manyO
      rw [if_neg (by omega), if_pos (by omega)]
      simp
/-- What the script answers. -/
theorem many_run (s : ByteArray) (k : Nat) (en : Bool) (w : World) (hs : s.data.toList = Dk.manyS k en) (hk : k ≤ 1100) (hz : s.size ≤ 60000) (he : Env w) :
    Calls Tryz.prog 17 #[.string s] w fun e w' => Below w.heap.size w w' ∧
      ((1000 < Dk.manyN k en ∧ e = .returned (.tuple #[.string ⟨#[]⟩, .int .i64 2])) ∨ (Dk.manyN k en ≤ 1000 ∧ ∃ o : ByteArray, e = .returned (.tuple #[.string o, .int .i64 0]) ∧ o.size ≤ 4000 ∧ Dk.linesL o.data.toList = Dk.manyR k en)) := by
  have hn : (linesS s).length = Dk.manyN k en := by rw [many_lines hs, List.length_map, Dk.manyL_length]
  refine (run_any s w hz he (fun _ => none) (Dk.manyO k) rfl (by unfold Dk.manyO; rw [if_pos (Nat.zero_le _)]; rfl) (fun i _ => by have := Dk.manyO_short (k := k) (i := i) hk; omega) (many_deeds hs)).mono ?_
  rintro e w' ⟨hb, h⟩
  refine ⟨hb, ?_⟩
  rw [hn] at h
  split at h
  · exact .inl ⟨by assumption, h⟩
  · refine .inr ⟨by omega, _, h, ?_, ?_⟩
    · exact Dk.manyO_short hk
    · exact Dk.manyO_lines k en
end Go.Proofs.YtigfogpfcbcdhaaGreatDoor
