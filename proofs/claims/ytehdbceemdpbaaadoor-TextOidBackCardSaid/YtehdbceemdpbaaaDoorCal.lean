/- The calendar in plain Lean: days of months and years, the day of a number of days, and that each number of days has one date. No condition: lemmas alone. -/
namespace Go.Proofs.YtehdbceemdpbaaaDoor

namespace Cal
/-- One in a leap year, else nought. -/
def lp (y : Int) : Int := if y % 4 = 0 ∧ (y % 100 ≠ 0 ∨ y % 400 = 0) then 1 else 0
def dim (y m : Int) : Int := if m = 2 then 28 + lp y else if m = 4 ∨ m = 6 ∨ m = 9 ∨ m = 11 then 30 else 31
/-- Days ahead of a year. -/
def dby (y : Int) : Int := 365 * y + (y + 3) / 4 - (y + 99) / 100 + (y + 399) / 400
/-- Days of a year ahead of a month. -/
def cum (y m : Int) : Int :=
  if m ≤ 1 then 0 else if m = 2 then 31 else if m = 3 then 59 + lp y else if m = 4 then 90 + lp y else if m = 5 then 120 + lp y else if m = 6 then 151 + lp y
  else if m = 7 then 181 + lp y else if m = 8 then 212 + lp y else if m = 9 then 243 + lp y else if m = 10 then 273 + lp y else if m = 11 then 304 + lp y else if m = 12 then 334 + lp y else 365 + lp y
/-- The days' number of a date. -/
def num (y m d : Int) : Int := dby y + cum y m + d - 1
/-- (y, m, d) is the date of day number n. -/
structure Is (n y m d : Int) : Prop where
  y0 : 0 ≤ y
  y1 : y ≤ 9999
  m0 : 1 ≤ m
  m1 : m ≤ 12
  d0 : 1 ≤ d
  d1 : d ≤ dim y m
  n : num y m d = n

theorem lp_01 (y : Int) : lp y = 0 ∨ lp y = 1 := by unfold lp; split <;> simp
theorem dim_lo (y m : Int) : 28 ≤ dim y m ∧ dim y m ≤ 31 := by
  have := lp_01 y
  unfold dim; split
  · omega
  · split <;> omega
theorem dby_succ (y : Int) (h : 0 ≤ y) : dby (y + 1) = dby y + 365 + lp y := by
  unfold dby lp
  split <;> omega
theorem dby_mono (a b : Int) (h : a ≤ b) : dby a ≤ dby b := by unfold dby; omega
theorem dby_zero : dby 0 = 0 := rfl
theorem dby_top : dby 10000 = 3652425 := rfl
theorem cum_succ (y m : Int) (h0 : 1 ≤ m) (h1 : m ≤ 12) : cum y (m + 1) = cum y m + dim y m := by
  have := lp_01 y
  obtain rfl | rfl | rfl | rfl | rfl | rfl | rfl | rfl | rfl | rfl | rfl | rfl : m = 1 ∨ m = 2 ∨ m = 3 ∨ m = 4 ∨ m = 5 ∨ m = 6 ∨ m = 7 ∨ m = 8 ∨ m = 9 ∨ m = 10 ∨ m = 11 ∨ m = 12 := by omega
  all_goals (simp [cum, dim]; try omega)
theorem cum_mono1 (y m : Int) (h0 : 1 ≤ m) (h1 : m ≤ 12) : cum y m < cum y (m + 1) := by
  have := cum_succ y m h0 h1; have := dim_lo y m; omega
theorem cum_13 (y : Int) : cum y 13 = 365 + lp y := by simp [cum]
theorem cum_1 (y : Int) : cum y 1 = 0 := by simp [cum]
theorem cum_mono (y a b : Int) (h0 : 1 ≤ a) (h : a ≤ b) (h1 : b ≤ 13) : cum y a ≤ cum y b := by
  obtain ⟨k, rfl⟩ : ∃ k : Nat, b = a + k := ⟨(b - a).toNat, by omega⟩
  induction k with
  | zero => simp
  | succ j ih =>
    have h2 := ih (by omega) (by omega)
    have h3 := cum_mono1 y (a + j) (by omega) (by omega)
    rw [show a + ((j + 1 : Nat) : Int) = a + j + 1 by omega]
    omega
theorem cum_bd (y m : Int) (h0 : 1 ≤ m) (h1 : m ≤ 13) : 0 ≤ cum y m ∧ cum y m ≤ 366 := by
  have a := cum_mono y 1 m (by omega) h0 h1
  have b := cum_mono y m 13 h0 h1 (by omega)
  have c := lp_01 y
  rw [cum_1] at a; rw [cum_13] at b
  omega
/-- A date lies within its year. -/
theorem Is.within {n y m d : Int} (h : Is n y m d) : dby y ≤ n ∧ n < dby (y + 1) := by
  obtain ⟨y0, y1, m0, m1, d0, d1, hn⟩ := h
  have h1 := cum_succ y m m0 m1
  have h2 := cum_mono y (m + 1) 13 (by omega) (by omega) (by omega)
  have h3 := cum_13 y
  have h4 := dby_succ y y0
  have h5 := cum_bd y m m0 (by omega)
  unfold num at hn
  omega
theorem Is.range {n y m d : Int} (h : Is n y m d) : 0 ≤ n ∧ n < 3652425 := by
  have hw := h.within
  have a := dby_mono 0 y h.y0
  have b := dby_mono (y + 1) 10000 (by have := h.y1; omega)
  rw [dby_zero] at a; rw [dby_top] at b
  omega
/-- One date for a number. -/
theorem Is.one {n y m d y' m' d' : Int} (h : Is n y m d) (k : Is n y' m' d') : y = y' ∧ m = m' ∧ d = d' := by
  have hw := h.within
  have kw := k.within
  have hy : y = y' := by
    rcases Int.lt_trichotomy y y' with hl | he | hl
    · have := dby_mono (y + 1) y' (by omega); omega
    · exact he
    · have := dby_mono (y' + 1) y (by omega); omega
  subst hy
  obtain ⟨y0, y1, m0, m1, d0, d1, hn⟩ := h
  obtain ⟨_, _, n0, n1, e0, e1, hm⟩ := k
  unfold num at hn hm
  have c1 := cum_succ y m m0 m1
  have c2 := cum_succ y m' n0 n1
  have hmm : m = m' := by
    rcases Int.lt_trichotomy m m' with hl | he | hl
    · have := cum_mono y (m + 1) m' (by omega) (by omega) (by omega); omega
    · exact he
    · have := cum_mono y (m' + 1) m (by omega) (by omega) (by omega); omega
  subst hmm
  exact ⟨rfl, rfl, by omega⟩
/-- The month of a day of a year. -/
theorem month_ex (y : Int) (r : Int) (h0 : 0 ≤ r) (h1 : r < 365 + lp y) : ∃ m, 1 ≤ m ∧ m ≤ 12 ∧ cum y m ≤ r ∧ r < cum y (m + 1) := by
  have hk : ∀ k : Nat, k ≤ 12 → r < cum y ((k : Int) + 1) → ∃ m, 1 ≤ m ∧ m ≤ 12 ∧ cum y m ≤ r ∧ r < cum y (m + 1) := by
    intro k
    induction k with
    | zero => intro _ h; rw [show ((0 : Nat) : Int) + 1 = 1 by omega, cum_1] at h; omega
    | succ j ih =>
      intro hj h
      by_cases hc : cum y ((j : Int) + 1) ≤ r
      · exact ⟨(j : Int) + 1, by omega, by omega, hc, by rw [show ((j + 1 : Nat) : Int) + 1 = (j : Int) + 1 + 1 by omega] at h; exact h⟩
      · exact ih (by omega) (by omega)
  exact hk 12 (by omega) (by rw [show ((12 : Nat) : Int) + 1 = 13 by omega, cum_13]; exact h1)
theorem year_ex (n : Int) (h0 : 0 ≤ n) (h1 : n < 3652425) : ∃ y, 0 ≤ y ∧ y ≤ 9999 ∧ dby y ≤ n ∧ n < dby (y + 1) := by
  have hk : ∀ k : Nat, k ≤ 10000 → n < dby (k : Int) → ∃ y, 0 ≤ y ∧ y ≤ 9999 ∧ dby y ≤ n ∧ n < dby (y + 1) := by
    intro k
    induction k with
    | zero => intro _ h; rw [show ((0 : Nat) : Int) = 0 by omega, dby_zero] at h; omega
    | succ j ih =>
      intro hj h
      by_cases hc : dby (j : Int) ≤ n
      · exact ⟨(j : Int), by omega, by omega, hc, by rw [show ((j + 1 : Nat) : Int) = (j : Int) + 1 by omega] at h; exact h⟩
      · exact ih (by omega) (by omega)
  exact hk 10000 (by omega) (by rw [show ((10000 : Nat) : Int) = 10000 by omega, dby_top]; exact h1)
/-- Each number has a date. -/
theorem ex (n : Int) (h0 : 0 ≤ n) (h1 : n < 3652425) : ∃ y m d, Is n y m d := by
  obtain ⟨y, y0, y1, h2, h3⟩ := year_ex n h0 h1
  have hs := dby_succ y y0
  obtain ⟨m, m0, m1, h4, h5⟩ := month_ex y (n - dby y) (by omega) (by omega)
  have hc := cum_succ y m m0 m1
  exact ⟨y, m, n - dby y - cum y m + 1, y0, y1, m0, m1, by omega, by omega, by unfold num; omega⟩
/-- Where a date's number lies, the year is its; and the month. -/
theorem Is.year {n y m d z : Int} (h : Is n y m d) (hz : 0 ≤ z) (h1 : dby z ≤ n) (h2 : n < dby (z + 1)) : y = z := by
  have hw := h.within
  rcases Int.lt_trichotomy y z with hl | he | hl
  · have := dby_mono (y + 1) z (by omega); omega
  · exact he
  · have := dby_mono (z + 1) y (by omega); omega
theorem guess (n : Int) (h : 0 ≤ n) : dby (n / 366) ≤ n := by unfold dby; omega
theorem dby_bd (a : Int) (h0 : 0 ≤ a) (h : a ≤ 10000) : 0 ≤ dby a ∧ dby a ≤ 3652425 := by unfold dby; omega
end Cal
end Go.Proofs.YtehdbceemdpbaaaDoor
