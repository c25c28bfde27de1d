/- The walks of the calendar's functions: leap, month, before, Date of the program, Days and Date of the reference: each returns what the plain calendar says, and turns nothing. -/
import Derived.Test.YtehdbceemdpbaaaDoorChecked
import Derived.Test.YtehdbceemdpbaaaDoorWords
import Derived.Test.YtehdbceemdpbaaaDoorCal
import Derived.WalkKit
import Derived.BigCall
import Derived.BigQuiet
import Derived.Outline
import Derived.Handy
namespace Go.Proofs.YtehdbceemdpbaaaDoor
open Go Go.RowKit

theorem ret_int {k : IntKind} {a b : Int} (h : a = b) : Ending.returned (.int k a) = .returned (.int k b) := by rw [h]

theorem leap_yes (y : Int) (w : World) (h0 : 0 ≤ y) (h1 : y ≤ 10000) (h : Cal.lp y = 1) :
    Calls Tryd.prog 68 #[.int .i64 y] w fun e w' => e = .returned (.bool true) ∧ w = w' := by
  have h4 : y % 4 = 0 := by unfold Cal.lp at h; split at h <;> omega
  by_cases h100 : y % 100 = 0
  · have h400 : y % 400 = 0 := by unfold Cal.lp at h; split at h <;> omega
    clear h
    go_enter Tryd.func68, Tryd.ntmps68
    go_wp2
    go_ret
    exact ⟨rfl, rfl⟩
  · clear h
    go_enter Tryd.func68, Tryd.ntmps68
    go_wp2
    go_ret
    exact ⟨rfl, rfl⟩
theorem leap_no (y : Int) (w : World) (h0 : 0 ≤ y) (h1 : y ≤ 10000) (h : Cal.lp y = 0) :
    Calls Tryd.prog 68 #[.int .i64 y] w fun e w' => e = .returned (.bool false) ∧ w = w' := by
  by_cases h4 : y % 4 = 0
  · have h100 : y % 100 = 0 := by unfold Cal.lp at h; split at h <;> omega
    have h400 : (y % 400 == 0) = false := by unfold Cal.lp at h; split at h <;> simp <;> omega
    clear h
    go_enter Tryd.func68, Tryd.ntmps68
    go_wp2
    go_ret
    exact ⟨rfl, rfl⟩
  · clear h
    go_enter Tryd.func68, Tryd.ntmps68
    go_wp2
    go_ret
    exact ⟨rfl, rfl⟩
theorem month_any (y m : Int) (w : World) (h0 : 0 ≤ y) (h1 : y ≤ 10000) :
    Calls Tryd.prog 57 #[.int .i64 y, .int .i64 m] w fun e w' => e = .returned (.int .i64 (Cal.dim y m)) ∧ w = w' := by
  by_cases h2 : m = 2
  · subst h2
    rcases Cal.lp_01 y with hl | hl
    · have hd : Cal.dim y 2 = 28 := by simp [Cal.dim, hl]
      rw [hd]
      have Hl := Lib.hid hl; clear hl hd
      go_enter Tryd.func57, Tryd.ntmps57
      go_wp2_with (go_at_call 68; refine (leap_no _ _ h0 h1 Hl.out).mono ?_; rintro e w' ⟨rfl, rfl⟩)
      go_ret
      exact ⟨rfl, rfl⟩
    · have hd : Cal.dim y 2 = 29 := by simp [Cal.dim, hl]
      rw [hd]
      have Hl := Lib.hid hl; clear hl hd
      go_enter Tryd.func57, Tryd.ntmps57
      go_wp2_with (go_at_call 68; refine (leap_yes _ _ h0 h1 Hl.out).mono ?_; rintro e w' ⟨rfl, rfl⟩)
      go_ret
      exact ⟨rfl, rfl⟩
  · by_cases hm : m = 4 ∨ m = 6 ∨ m = 9 ∨ m = 11
    · have hd : Cal.dim y m = 30 := by simp [Cal.dim, h2, hm]
      rw [hd]
      clear hd
      rcases hm with rfl | rfl | rfl | rfl
      all_goals
        go_enter Tryd.func57, Tryd.ntmps57
        go_wp2
        go_ret
        exact ⟨rfl, rfl⟩
    · have hd : Cal.dim y m = 31 := by simp [Cal.dim, h2, hm]
      rw [hd]
      have e2 : (m == 2) = false := by simpa using h2
      have e4 : (m == 4) = false := by simp; omega
      have e6 : (m == 6) = false := by simp; omega
      have e9 : (m == 9) = false := by simp; omega
      have e11 : (m == 11) = false := by simp; omega
      clear hd h2 hm
      go_enter Tryd.func57, Tryd.ntmps57
      go_wp2
      go_ret
      exact ⟨rfl, rfl⟩
theorem before_any (y : Int) (w : World) (h0 : 0 ≤ y) (h1 : y ≤ 10000) :
    Calls Tryd.prog 56 #[.int .i64 y] w fun e w' => e = .returned (.int .i64 (Cal.dby y)) ∧ w = w' := by
  by_cases hz : y = 0
  · subst hz
    go_enter Tryd.func56, Tryd.ntmps56
    go_wp2
    go_ret
    exact ⟨rfl, rfl⟩
  · go_enter Tryd.func56, Tryd.ntmps56
    go_wp2
    go_ret
    exact ⟨ret_int (by unfold Cal.dby; omega), rfl⟩
theorem date_no (t : Int) (w : World) (h : t < -62167219200 ∨ 253402300799 < t) :
    Calls Tryd.prog 25 #[.int .i64 t] w fun e w' => e = .returned (.tuple #[.int .i64 0, .int .i64 0, .int .i64 0, .int .i64 21]) ∧ w = w' := by
  rcases h with h | h
  · go_enter Tryd.func25, Tryd.ntmps25
    go_wp2
    refine bodyPost_ret (results_tmp4 rfl _ _ _) rfl ?_
    exact ⟨rfl, rfl⟩
  · have h' : ¬ t < -62167219200 := by omega
    go_enter Tryd.func25, Tryd.ntmps25
    go_wp2
    refine bodyPost_ret (results_tmp4 rfl _ _ _) rfl ?_
    exact ⟨rfl, rfl⟩
/-- In a year z of the search: the day lies in a later one, or in this one. -/
theorem year_next {n y m d z : Int} (h : Cal.Is n y m d) (hz : 0 ≤ z) (hzy : z ≤ y) : (z < y → Cal.dby (z + 1) ≤ n) ∧ (z = y → n < Cal.dby (z + 1)) := by
  have hw := h.within
  refine ⟨fun hl => ?_, fun he => by subst he; omega⟩
  have := Cal.dby_mono (z + 1) y (by omega)
  omega
theorem year_start {n y m d z : Int} (h : Cal.Is n y m d) (hz : 0 ≤ z) (hn : Cal.dby z ≤ n) : z ≤ y := by
  have hw := h.within
  rcases Int.lt_or_le y z with hl | hl
  · have := Cal.dby_mono (y + 1) z (by omega); omega
  · exact hl
theorem month_next {n y m d k : Int} (h : Cal.Is n y m d) (hk : 1 ≤ k) (hkm : k ≤ m) : (k < m → Cal.dim y k ≤ n - Cal.dby y - Cal.cum y k) ∧ (k = m → n - Cal.dby y - Cal.cum y k < Cal.dim y k) := by
  obtain ⟨y0, y1, m0, m1, d0, d1, hn⟩ := h
  unfold Cal.num at hn
  refine ⟨fun hl => ?_, fun he => by subst he; omega⟩
  have := Cal.cum_mono y (k + 1) m (by omega) (by omega) (by omega)
  have := Cal.cum_succ y k hk (by omega)
  omega
theorem is_last {n y m d : Int} (h : Cal.Is n y m d) : n - Cal.dby y - Cal.cum y m + 1 = d := by
  have := h.n
  unfold Cal.num at this
  omega
theorem dby_400 (z : Int) : Cal.dby (z + 400) = Cal.dby z + 146097 := by unfold Cal.dby; omega
theorem lp_yes {y : Int} (h : Cal.lp y = 1) : y % 4 = 0 ∧ (¬ y % 100 = 0 ∨ y % 400 = 0) := by
  unfold Cal.lp at h
  split at h
  · assumption
  · omega
theorem lp_no {y : Int} (h : Cal.lp y = 0) : ¬ y % 4 = 0 ∨ (y % 100 = 0 ∧ ¬ y % 400 = 0) := by
  unfold Cal.lp at h
  split at h <;> omega
/-- The reference's days of a month; month 0: the whole year. -/
def daysOf (y m : Int) : Int := if m = 0 then 365 + Cal.lp y else Cal.dim y m
theorem days_leap (y m b : Int) (h : b = Cal.lp y) : daysOf y m = if m = 0 then 365 + b else if m = 2 then 28 + b else if m = 4 ∨ m = 6 ∨ m = 9 ∨ m = 11 then 30 else 31 := by
  subst h; unfold daysOf Cal.dim; rfl
set_option maxHeartbeats 1000000 in
theorem days_any (y m : Int) (w : World) (h0 : 0 ≤ y) (h1 : y ≤ 10000) :
    Calls Tryd.prog 30 #[.int .i64 y, .int .i64 m] w fun e w' => e = .returned (.int .i64 (daysOf y m)) ∧ w = w' := by
  have key : ∀ b : Int, b = Cal.lp y → (b = 0 ∨ b = 1) → ((¬ y % 4 = 0 ∧ b = 0) ∨ (y % 4 = 0 ∧ y % 100 = 0 ∧ y % 400 = 0 ∧ b = 1) ∨ (y % 4 = 0 ∧ y % 100 = 0 ∧ (y % 400 == 0) = false ∧ b = 0) ∨ (y % 4 = 0 ∧ ¬ y % 100 = 0 ∧ b = 1)) := by
    intro b hb _
    subst hb
    rcases Cal.lp_01 y with hl | hl
    · have := lp_no hl; simp only [beq_eq_false_iff_ne]; omega
    · have := lp_yes hl; simp only [beq_eq_false_iff_ne]; omega
  obtain ⟨b, hb⟩ : ∃ b, b = Cal.lp y := ⟨_, rfl⟩
  rw [days_leap y m b hb]
  have hk := key b hb (by subst hb; exact Cal.lp_01 y)
  clear key hb
  by_cases hm0 : m = 0
  · subst hm0
    rcases hk with ⟨h4, rfl⟩ | ⟨h4, h100, h400, rfl⟩ | ⟨h4, h100, h400, rfl⟩ | ⟨h4, h100, rfl⟩
    all_goals
      go_enter Tryd.func30, Tryd.ntmps30
      go_wp2
      go_ret
      exact ⟨rfl, rfl⟩
  · rw [if_neg hm0]
    have e0 : (m == 0) = false := by simpa using hm0
    clear hm0
    by_cases h2 : m = 2
    · subst h2
      rcases hk with ⟨h4, rfl⟩ | ⟨h4, h100, h400, rfl⟩ | ⟨h4, h100, h400, rfl⟩ | ⟨h4, h100, rfl⟩
      all_goals
        go_enter Tryd.func30, Tryd.ntmps30
        go_wp2
        go_ret
        exact ⟨rfl, rfl⟩
    · rw [if_neg h2]
      have e2 : (m == 2) = false := by simpa using h2
      by_cases hm : m = 4 ∨ m = 6 ∨ m = 9 ∨ m = 11
      · rw [if_pos hm]
        rcases hm with rfl | rfl | rfl | rfl
        all_goals
          rcases hk with ⟨h4, rfl⟩ | ⟨h4, h100, h400, rfl⟩ | ⟨h4, h100, h400, rfl⟩ | ⟨h4, h100, rfl⟩
          all_goals
            clear e0 e2 h2
            go_enter Tryd.func30, Tryd.ntmps30
            go_wp2
            go_ret
            exact ⟨rfl, rfl⟩
      · rw [if_neg hm]
        have e4 : (m == 4) = false := by simp; omega
        have e6 : (m == 6) = false := by simp; omega
        have e9 : (m == 9) = false := by simp; omega
        have e11 : (m == 11) = false := by simp; omega
        clear h2 hm
        rcases hk with ⟨h4, rfl⟩ | ⟨h4, h100, h400, rfl⟩ | ⟨h4, h100, h400, rfl⟩ | ⟨h4, h100, rfl⟩
        all_goals
          go_enter Tryd.func30, Tryd.ntmps30
          go_wp2
          go_ret
          exact ⟨rfl, rfl⟩
theorem daysOf_zero (y : Int) : daysOf y 0 = 365 + Cal.lp y := rfl
theorem daysOf_month (y m : Int) (h : 1 ≤ m) : daysOf y m = Cal.dim y m := if_neg (by omega)
theorem daysOf_bd (y m : Int) : 28 ≤ daysOf y m ∧ daysOf y m ≤ 366 := by
  unfold daysOf
  have := Cal.lp_01 y
  have := Cal.dim_lo y m
  split <;> omega
/-- A whole year's days, met as a year's. -/
theorem days_year (y : Int) (w : World) (h0 : 0 ≤ y) (h1 : y ≤ 10000) :
    Calls Tryd.prog 30 #[.int .i64 y, .int .i64 0] w fun e w' => e = .returned (.int .i64 (365 + Cal.lp y)) ∧ w = w' :=
  (days_any y 0 w h0 h1)
theorem days_month (y m : Int) (w : World) (h0 : 0 ≤ y) (h1 : y ≤ 10000) (hm : 1 ≤ m) :
    Calls Tryd.prog 30 #[.int .i64 y, .int .i64 m] w fun e w' => e = .returned (.int .i64 (Cal.dim y m)) ∧ w = w' := by
  rw [← daysOf_month y m hm]; exact days_any y m w h0 h1
set_option maxHeartbeats 1000000 in
theorem date_yes (t y m d : Int) (w : World) (h0 : -62167219200 ≤ t) (h1 : t ≤ 253402300799) (h : Cal.Is ((t + 62167219200) / 86400) y m d) :
    Calls Tryd.prog 25 #[.int .i64 t] w fun e w' => e = .returned (.tuple #[.int .i64 y, .int .i64 m, .int .i64 d, .int .i64 0]) ∧ w = w' := by
  have n0 : 0 ≤ (t + 62167219200) / 86400 := by omega
  have n1 : (t + 62167219200) / 86400 < 3652425 := by omega
  have g0 := year_start h (by omega) (Cal.guess _ n0)
  have g1 : 0 ≤ (t + 62167219200) / 86400 / 366 := by omega
  have hy1 := h.y1
  have HI := Lib.hid h
  have hm1 := h.m1
  have hm0 := h.m0
  clear h
  go_enter Tryd.func25, Tryd.ntmps25
  go_wp2_with fail
  go_loop [7] (fun t7 => ∃ z : Int, 0 ≤ z ∧ z ≤ y ∧ t7 = .int .i64 z) (fun t7 => (y - intOf t7).toNat)
  case atStart => exact ⟨_, g1, g0, rfl⟩
  case round =>
    obtain ⟨z, hz0, hz1, rfl⟩ := hrel
    have hn := year_next HI.out hz0 hz1
    by_cases hc : z < y
    · have hd := hn.1 hc
      clear hn
      go_wp2_with (go_at_call 56; refine (before_any _ _ (by omega) (by omega)).mono ?_; rintro e w' ⟨rfl, rfl⟩)
      go_round
      case rel => exact ⟨z + 1, by omega, by omega, rfl⟩
      case measure => simp [intOf]; omega
    · obtain rfl : z = y := by omega
      have hd := hn.2 rfl
      clear hn hc
      have hb := Cal.dby_bd z hz0 (by omega)
      go_wp2_with (go_at_call 56; refine (before_any _ _ (by omega) (by omega)).mono ?_; rintro e w' ⟨rfl, rfl⟩)
      go_loop [6, 8] (fun t6 t8 => ∃ k : Int, 1 ≤ k ∧ k ≤ m ∧ t8 = .int .i64 k ∧ t6 = .int .i64 ((t + 62167219200) / 86400 - Cal.dby z - Cal.cum z k)) (fun _ t8 => (m - intOf t8).toNat)
      case atStart => exact ⟨1, by omega, by omega, rfl, by rw [Cal.cum_1]; go_num⟩
      case round =>
        obtain ⟨k, hk0, hk1, rfl, rfl⟩ := hrel
        have hq := month_next HI.out hk0 hk1
        have cb := Cal.cum_bd z k hk0 (by omega)
        have db := Cal.dim_lo z k
        by_cases hkm : k < m
        · have hd2 := hq.1 hkm
          have Hc := Lib.hid (Cal.cum_succ z k hk0 (by omega))
          clear hq
          go_wp2_with (go_at_call 57; refine (month_any _ _ _ (by omega) (by omega)).mono ?_; rintro e w' ⟨rfl, rfl⟩)
          go_round
          case rel => exact ⟨k + 1, by omega, by omega, rfl, by rw [Hc.out]; go_num⟩
          case measure => simp [intOf]; omega
        · obtain rfl : k = m := by omega
          have hd2 := hq.2 rfl
          clear hq hkm
          go_wp2_with (go_at_call 57; refine (month_any _ _ _ (by omega) (by omega)).mono ?_; rintro e w' ⟨rfl, rfl⟩)
          refine bodyPost_ret (results_tmp4 rfl _ _ _) rfl ?_
          have hl := is_last HI.out
          exact ⟨by simp [hl], rfl⟩
theorem refdate_no (t : Int) (w : World) (h : t < -62167219200 ∨ 253402300799 < t) :
    Calls Tryd.prog 26 #[.int .i64 t] w fun e w' => e = .returned (.tuple #[.int .i64 0, .int .i64 0, .int .i64 0, .int .i64 21]) ∧ w = w' := by
  rcases h with h | h
  · go_enter Tryd.func26, Tryd.ntmps26
    go_wp2
    refine bodyPost_ret (results_tmp4 rfl _ _ _) rfl ?_
    exact ⟨rfl, rfl⟩
  · have h' : ¬ t < -62167219200 := by omega
    go_enter Tryd.func26, Tryd.ntmps26
    go_wp2
    refine bodyPost_ret (results_tmp4 rfl _ _ _) rfl ?_
    exact ⟨rfl, rfl⟩
set_option maxHeartbeats 1000000 in
theorem refdate_yes (t y m d : Int) (w : World) (h0 : -62167219200 ≤ t) (h1 : t ≤ 253402300799) (h : Cal.Is ((t + 62167219200) / 86400) y m d) :
    Calls Tryd.prog 26 #[.int .i64 t] w fun e w' => e = .returned (.tuple #[.int .i64 y, .int .i64 m, .int .i64 d, .int .i64 0]) ∧ w = w' := by
  have n0 : 0 ≤ (t + 62167219200) / 86400 := by omega
  have n1 : (t + 62167219200) / 86400 < 3652425 := by omega
  have hy1 := h.y1
  have hy0 := h.y0
  have HI := Lib.hid h
  have hm1 := h.m1
  have hm0 := h.m0
  clear h
  go_enter Tryd.func26, Tryd.ntmps26
  go_wp2_with fail
  go_loop [6, 7] (fun t6 t7 => ∃ z : Int, 0 ≤ z ∧ z ≤ y ∧ t7 = .int .i64 z ∧ t6 = .int .i64 ((t + 62167219200) / 86400 - Cal.dby z)) (fun _ t7 => (y - intOf t7).toNat)
  case atStart => exact ⟨0, by omega, by omega, rfl, by rw [Cal.dby_zero]; go_num⟩
  case round =>
    obtain ⟨z, hz0, hz1, rfl, rfl⟩ := hrel
    have hb := Cal.dby_bd z hz0 (by omega)
    by_cases hc : 146097 ≤ (t + 62167219200) / 86400 - Cal.dby z
    · have h4 := dby_400 z
      have hs := year_start HI.out (z := z + 400) (by omega) (by omega)
      have H4 := Lib.hid h4
      clear h4
      go_wp2_with fail
      go_round
      case rel => exact ⟨z + 400, by omega, by omega, rfl, by rw [H4.out]; go_num⟩
      case measure => simp [intOf]; omega
    · go_wp2_with fail
      go_loop [6, 7] (fun t6 t7 => ∃ z : Int, 0 ≤ z ∧ z ≤ y ∧ t7 = .int .i64 z ∧ t6 = .int .i64 ((t + 62167219200) / 86400 - Cal.dby z)) (fun _ t7 => (y - intOf t7).toNat)
      case atStart => exact ⟨z, by omega, by omega, rfl, rfl⟩
      case round =>
        clear hc hb hz0 hz1
        obtain ⟨z, hz0, hz1, rfl, rfl⟩ := hrel
        have hb := Cal.dby_bd z hz0 (by omega)
        have hn := year_next HI.out hz0 hz1
        have hs := Cal.dby_succ z hz0
        have hl := Cal.lp_01 z
        by_cases hc : z < y
        · have hd := hn.1 hc
          have hd2 : 365 + Cal.lp z ≤ (t + 62167219200) / 86400 - Cal.dby z := by omega
          have Hs := Lib.hid hs
          clear hn hs hd
          have hl' : 0 ≤ Cal.lp z ∧ Cal.lp z ≤ 1 := by omega
          clear hl
          go_wp2_with (go_at_call 30; refine (days_year _ _ (by omega) (by omega)).mono ?_; rintro e w' ⟨rfl, rfl⟩)
          go_round
          case rel => exact ⟨z + 1, by omega, by omega, rfl, by rw [Hs.out]; go_num⟩
          case measure => simp [intOf]; omega
        · obtain rfl : z = y := by omega
          have hd := hn.2 rfl
          have hd2 : (t + 62167219200) / 86400 - Cal.dby z < 365 + Cal.lp z := by omega
          have hl' : 0 ≤ Cal.lp z ∧ Cal.lp z ≤ 1 := by omega
          clear hn hc hs hd hl
          go_wp2_with (go_at_call 30; refine (days_year _ _ (by omega) (by omega)).mono ?_; rintro e w' ⟨rfl, rfl⟩)
          go_loop [6, 8] (fun t6 t8 => ∃ k : Int, 1 ≤ k ∧ k ≤ m ∧ t8 = .int .i64 k ∧ t6 = .int .i64 ((t + 62167219200) / 86400 - Cal.dby z - Cal.cum z k)) (fun _ t8 => (m - intOf t8).toNat)
          case atStart => exact ⟨1, by omega, by omega, rfl, by rw [Cal.cum_1]; go_num⟩
          case round =>
            obtain ⟨k, hk0, hk1, rfl, rfl⟩ := hrel
            have hq := month_next HI.out hk0 hk1
            have cb := Cal.cum_bd z k hk0 (by omega)
            have db := Cal.dim_lo z k
            by_cases hkm : k < m
            · have hd3 := hq.1 hkm
              have Hc := Lib.hid (Cal.cum_succ z k hk0 (by omega))
              clear hq
              go_wp2_with (go_at_call 30; refine (days_month _ _ _ (by omega) (by omega) (by omega)).mono ?_; rintro e w' ⟨rfl, rfl⟩)
              go_round
              case rel => exact ⟨k + 1, by omega, by omega, rfl, by rw [Hc.out]; go_num⟩
              case measure => simp [intOf]; omega
            · obtain rfl : k = m := by omega
              have hd3 := hq.2 rfl
              clear hq hkm
              go_wp2_with (go_at_call 30; refine (days_month _ _ _ (by omega) (by omega) (by omega)).mono ?_; rintro e w' ⟨rfl, rfl⟩)
              refine bodyPost_ret (results_tmp4 rfl _ _ _) rfl ?_
              have hl := is_last HI.out
              exact ⟨by simp [hl], rfl⟩
end Go.Proofs.YtehdbceemdpbaaaDoor
