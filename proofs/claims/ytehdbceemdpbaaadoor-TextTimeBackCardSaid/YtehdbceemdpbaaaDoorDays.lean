/- The walk of Within and of the statement about the next day. -/
import Derived.Test.YtehdbceemdpbaaaDoorKnown
import Derived.Test.YtehdbceemdpbaaaDoorCalW
namespace Go.Proofs.YtehdbceemdpbaaaDoor
open Go Go.RowKit

/-- A time that a text can tell. -/
def In (t : Int) : Prop := -62167219200 ≤ t ∧ t ≤ 253402300799
set_option maxRecDepth 100000 in
theorem within_any (t : Int) (w : World) (h0 : -9223372036854775808 ≤ t) (h1 : t ≤ 9223372036854775807) :
    Calls Tryd.prog 29 #[.int .i64 t] w fun e w' => ∃ u : Int, e = .returned (.int .i64 u) ∧ In u ∧ w = w' := by
  by_cases ha : -62167219200 ≤ t
  · by_cases hb : t ≤ 253402300799
    · go_enter Tryd.func29, Tryd.ntmps29
      go_wp2_with fail
      go_ret
      exact ⟨t, rfl, ⟨ha, hb⟩, rfl⟩
    · have hm : In (t % 4000000000) := by unfold In; omega
      go_enter Tryd.func29, Tryd.ntmps29
      go_wp2_with fail
      go_ret
      exact ⟨_, rfl, hm, rfl⟩
  · have hm : In (t.tmod 4000000000) := by
      have h2 := Int.lt_tmod_of_pos t (b := 4000000000) (by decide)
      have h3 := Int.tmod_lt_of_pos t (b := 4000000000) (by decide)
      unfold In; omega
    go_enter Tryd.func29, Tryd.ntmps29
    go_wp2_with fail
    go_ret
    exact ⟨_, rfl, hm, rfl⟩
theorem Cal.Is.next {n y m d : Int} (h : Cal.Is n y m d) : (n = 3652424 ∧ y = 9999 ∧ m = 12 ∧ d = 31) ∨ Cal.Is (n + 1) y m (d + 1) ∨ (d = Cal.dim y m ∧ m < 12 ∧ Cal.Is (n + 1) y (m + 1) 1) ∨ (d = Cal.dim y m ∧ m = 12 ∧ Cal.Is (n + 1) (y + 1) 1 1) := by
  obtain ⟨y0, y1, m0, m1, d0, d1, hn⟩ := h
  by_cases hd : d < Cal.dim y m
  · exact .inr (.inl ⟨y0, y1, m0, m1, by omega, by omega, by unfold Cal.num at hn ⊢; omega⟩)
  · have hde : d = Cal.dim y m := by omega
    by_cases hm : m < 12
    · refine .inr (.inr (.inl ⟨hde, hm, y0, y1, by omega, by omega, by omega, ?_, ?_⟩))
      · have := Cal.dim_lo y (m + 1); omega
      · have := Cal.cum_succ y m m0 m1
        unfold Cal.num at hn ⊢; omega
    · have hme : m = 12 := by omega
      subst hme
      have hdim : Cal.dim y 12 = 31 := by simp [Cal.dim]
      by_cases hy : y = 9999
      · subst hy
        refine .inl ⟨?_, rfl, rfl, by omega⟩
        rw [← hn, hde]; decide +kernel
      · refine .inr (.inr (.inr ⟨hde, rfl, by omega, by omega, by omega, by omega, by omega, ?_, ?_⟩))
        · have := Cal.dim_lo (y + 1) 1; omega
        · have h1 := Cal.cum_succ y 12 m0 m1
          have h2 := Cal.cum_13 y
          have h3 := Cal.cum_1 (y + 1)
          have h4 := Cal.dby_succ y y0
          unfold Cal.num at hn ⊢
          simp only [show (12 : Int) + 1 = 13 from rfl] at h1
          omega
set_option maxRecDepth 100000 in
set_option maxHeartbeats 2000000 in
theorem textDays_walk (t : Int) (w : World) (h0 : -9223372036854775808 ≤ t) (h1 : t ≤ 9223372036854775807) (hT : Lib.Utf8Tabs 0 1 w) :
    Calls Tryd.prog 8 #[.int .i64 t] w fun e w' => e = .returned (.bool true) ∧ Below w.heap.size w w' := by
  have HT := Lib.hid hT
  clear hT
  go_enter Tryd.func8, Tryd.ntmps8
  go_wp2_with fail
  refine (within_any t _ h0 h1).mono ?_
  rintro e w1 ⟨u, rfl, ⟨hu0, hu1⟩, rfl⟩
  clear h0 h1
  obtain ⟨y, m, d, hi⟩ := Cal.ex ((u + 62167219200) / 86400) (by omega) (by omega)
  have Hi := Lib.hid hi
  have hy0 := hi.y0; have hy1 := hi.y1; have hm0 := hi.m0; have hm1 := hi.m1; have hd0 := hi.d0
  have hd1 : d ≤ 31 := Int.le_trans hi.d1 (Cal.dim_lo y m).2
  have e1 : (u + 86400 + 62167219200) / 86400 = (u + 62167219200) / 86400 + 1 := by omega
  rcases hi.next with ⟨hn, rfl, rfl, rfl⟩ | hn | ⟨hd, hm, hn⟩ | ⟨hd, rfl, hn⟩
  · have H2 : Hid (u + 86400 < -62167219200 ∨ 253402300799 < u + 86400) := .inr (by omega)
    clear hi hn e1 hy0 hy1 hm0 hm1 hd0 hd1
    go_wp2_with fail
    refine (date_yes u _ _ _ _ hu0 hu1 Hi.out).mono ?_
    rintro e w1 ⟨rfl, rfl⟩
    go_wp2_with fail
    refine (date_no _ _ H2.out).mono ?_
    rintro e w1 ⟨rfl, rfl⟩
    go_wp2_with fail
    refine (known_any _ HT.out).mono ?_
    rintro e w1 ⟨rfl, hb⟩
    go_wp2_with fail
    go_ret
    exact ⟨rfl, hb⟩
  · rw [← e1] at hn
    have hr := hn.range
    have Hn := Lib.hid hn
    have H3 : u + 86400 ≤ 253402300799 := by omega
    clear hi hn e1 hr
    go_wp2_with fail
    refine (date_yes u _ _ _ _ hu0 hu1 Hi.out).mono ?_
    rintro e w1 ⟨rfl, rfl⟩
    go_wp2_with fail
    refine (date_yes _ _ _ _ _ (by omega) H3 Hn.out).mono ?_
    rintro e w1 ⟨rfl, rfl⟩
    go_wp2_with fail
    refine (known_any _ HT.out).mono ?_
    rintro e w1 ⟨rfl, hb⟩
    go_wp2_with fail
    go_ret
    exact ⟨rfl, hb⟩
  · rw [← e1] at hn
    have hr := hn.range
    have Hn := Lib.hid hn
    have H3 : u + 86400 ≤ 253402300799 := by omega
    have Hd := Lib.hid hd
    have hne : ((1 : Int) == d + 1) = false := by simp; omega
    clear hi hn e1 hr hd
    go_wp2_with fail
    refine (date_yes u _ _ _ _ hu0 hu1 Hi.out).mono ?_
    rintro e w1 ⟨rfl, rfl⟩
    go_wp2_with fail
    refine (date_yes _ _ _ _ _ (by omega) H3 Hn.out).mono ?_
    rintro e w1 ⟨rfl, rfl⟩
    go_wp2_with fail
    refine (days_month y m _ hy0 (by omega) hm0).mono ?_
    rintro e w1 ⟨rfl, rfl⟩
    rw [← Hd.out]
    go_wp2_with fail
    refine (known_any _ HT.out).mono ?_
    rintro e w1 ⟨rfl, hb⟩
    go_wp2_with fail
    go_ret
    exact ⟨rfl, hb⟩
  · rw [← e1] at hn
    have hr := hn.range
    have hy2 := hn.y1
    have Hn := Lib.hid hn
    have H3 : u + 86400 ≤ 253402300799 := by omega
    have Hd := Lib.hid hd
    have hne : ((1 : Int) == d + 1) = false := by simp; omega
    have hney : (y + 1 == y) = false := beq_eq_false_iff_ne.2 (by omega)
    clear hi hn e1 hr hd
    go_wp2_with fail
    refine (date_yes u _ _ _ _ hu0 hu1 Hi.out).mono ?_
    rintro e w1 ⟨rfl, rfl⟩
    go_wp2_with fail
    refine (date_yes _ _ _ _ _ (by omega) H3 Hn.out).mono ?_
    rintro e w1 ⟨rfl, rfl⟩
    go_wp2_with fail
    refine (days_month y 12 _ hy0 (by omega) hm0).mono ?_
    rintro e w1 ⟨rfl, rfl⟩
    rw [← Hd.out]
    go_wp2_with fail
    refine (known_any _ HT.out).mono ?_
    rintro e w1 ⟨rfl, hb⟩
    go_wp2_with fail
    go_ret
    exact ⟨rfl, hb⟩
end Go.Proofs.YtehdbceemdpbaaaDoor
