/- Times as texts, in plain Lean. No condition: definitions and lemmas alone. -/
import Derived.Test.YtehdbceemdpbaaaDoorDig
import Derived.Test.YtehdbceemdpbaaaDoorCal
namespace Go.Proofs.YtehdbceemdpbaaaDoor
namespace Tm
/-- Month, day, hour, minute, second. -/
def clk (m d s : Nat) : List UInt8 := Dig.dgs m 2 ++ Dig.dgs d 2 ++ Dig.dgs (s / 3600) 2 ++ Dig.dgs (s / 60 % 60) 2 ++ Dig.dgs (s % 60) 2
def yr (y width : Nat) : Nat := if width = 2 then y % 100 else y
def txt (y m d s width : Nat) : List UInt8 := Dig.dgs (yr y width) width ++ clk m d s
theorem clk_length_le (m d s : Nat) : (clk m d s).length ≤ 100 := by
  unfold clk
  have := Dig.dgs_length_le m 2
  have := Dig.dgs_length_le d 2
  have := Dig.dgs_length_le (s / 3600) 2
  have := Dig.dgs_length_le (s / 60 % 60) 2
  have := Dig.dgs_length_le (s % 60) 2
  simp only [List.length_append]
  omega
theorem txt_length_le (y m d s width : Nat) : (txt y m d s width).length ≤ 120 := by
  unfold txt clk
  have := Dig.dgs_length_le (yr y width) width
  have := Dig.dgs_length_le m 2
  have := Dig.dgs_length_le d 2
  have := Dig.dgs_length_le (s / 3600) 2
  have := Dig.dgs_length_le (s / 60 % 60) 2
  have := Dig.dgs_length_le (s % 60) 2
  simp only [List.length_append]
  omega
/-- Without the noughts at the end. -/
def rstrip (l : List UInt8) : List UInt8 := (l.reverse.dropWhile (· == 48)).reverse
theorem rstrip_nil : rstrip [] = [] := rfl
theorem rstrip_nought (l : List UInt8) : rstrip (l ++ [48]) = rstrip l := by simp [rstrip]
theorem rstrip_other (l : List UInt8) (c : UInt8) (h : c ≠ 48) : rstrip (l ++ [c]) = l ++ [c] := by
  simp [rstrip, h]
theorem rstrip_cut (L : List UInt8) (k : Nat) (hk : k < L.length) (h : L[k] = 48) : rstrip (L.take (k + 1)) = rstrip (L.take k) := by
  rw [List.take_succ_eq_append_getElem hk, h, rstrip_nought]
theorem rstrip_end (L : List UInt8) (k : Nat) (hk : k < L.length) (h : L[k] ≠ 48) : rstrip (L.take (k + 1)) = L.take (k + 1) := by
  rw [List.take_succ_eq_append_getElem hk, rstrip_other _ _ h]
theorem rstrip_dot (a D : List UInt8) : rstrip (a ++ 46 :: D) = a ++ 46 :: rstrip D := by
  have key : ∀ n (D : List UInt8), D.length = n → rstrip (a ++ 46 :: D) = a ++ 46 :: rstrip D := by
    intro n
    induction n with
    | zero =>
      intro D hD
      rw [List.eq_nil_of_length_eq_zero hD]
      exact rstrip_other a 46 (by decide)
    | succ n ih =>
      intro D hD
      rcases List.eq_nil_or_concat D with h | ⟨D', c, h⟩
      · subst h; simp at hD
      · subst h
        rw [List.concat_eq_append] at hD ⊢
        by_cases hc : c = 48
        · subst hc
          rw [rstrip_nought, show a ++ 46 :: (D' ++ [48]) = (a ++ 46 :: D') ++ [48] by simp, rstrip_nought]
          exact ih D' (by simpa using hD)
        · rw [rstrip_other _ _ hc, show a ++ 46 :: (D' ++ [c]) = (a ++ 46 :: D') ++ [c] by simp, rstrip_other _ _ hc]
  exact key _ D rfl
theorem rstrip_len (l : List UInt8) : (rstrip l).length ≤ l.length := by
  unfold rstrip
  have := (List.dropWhile_suffix (fun c : UInt8 => c == 48) (l := l.reverse)).length_le
  simpa using this
/-- The long text, its millionths with it. -/
def long (y m d s u : Nat) : List UInt8 := if u = 0 then txt y m d s 4 ++ [90] else rstrip (txt y m d s 4 ++ 46 :: Dig.dgs u 6) ++ [90]
def short (y m d s : Nat) : List UInt8 := txt y m d s 2 ++ [90]
end Tm
end Go.Proofs.YtehdbceemdpbaaaDoor
