/- The walk of the statement that times go there and back. -/
import Derived.Test.YtehdbceemdpbaaaDoorParses
import Derived.Test.YtehdbceemdpbaaaDoorTimes
import Derived.Test.YtehdbceemdpbaaaDoorDays
import Derived.Test.YtehdbceemdpbaaaDoorAmong
namespace Go.Proofs.YtehdbceemdpbaaaDoor
open Go Go.RowKit

/-- A time's long text, and what it is read as. -/
theorem long_both_ways (u : Int) (v : Nat) (hu : In u) (hv : v < 1000000) : ∃ x : ByteArray, x.size ≤ 1000 ∧ (∀ w, Calls Tryd.prog 23 #[.int .i64 u, .int .i64 (v : Int)] w fun e w' => e = .returned (.tuple #[.string x, .int .i64 0]) ∧ Below w.heap.size w w') ∧
    (∀ w, Calls Tryd.prog 40 #[.string x] w fun e w' => e = .returned (.tuple #[.int .i64 u, .int .i64 (v : Int), .int .i64 0]) ∧ Below w.heap.size w w') := by
  obtain ⟨y, m, d, s, hi, hs⟩ := of_time u hu.1 hu.2
  have hz := Tm.long_size y m d s v
  refine ⟨_, hz, fun w => long_yes u y m d s v w hu.1 hu.2 (by omega) (Lib.hid hi) (Lib.hid hs), fun w => ?_⟩
  refine (parseLong_any _ w (by omega)).mono ?_
  rintro e w' ⟨rfl, hq⟩
  have hb := Pr.long_back hi hs (u := v) (by omega)
  refine ⟨?_, quiet_below hq⟩
  show Ending.returned (longVal (Pr.longO (Tm.long y m d s v))) = _
  rw [hb]; rfl
/-- A time's short text, if it has one, and what it is read as. -/
theorem short_both_ways (u : Int) (hu : In u) : ∃ x : ByteArray, x.size ≤ 1000 ∧ (((∀ w, Calls Tryd.prog 21 #[.int .i64 u] w fun e w' => e = .returned (.tuple #[.string x, .int .i64 0]) ∧ Below w.heap.size w w') ∧
    (∀ w, Calls Tryd.prog 38 #[.string x] w fun e w' => e = .returned (.tuple #[.int .i64 u, .int .i64 0]) ∧ Below w.heap.size w w')) ∨
    (∀ w, Calls Tryd.prog 21 #[.int .i64 u] w fun e w' => e = .returned (.tuple #[.string x, .int .i64 21]) ∧ Below w.heap.size w w')) := by
  by_cases hr : -631152000 ≤ u ∧ u ≤ 2524607999
  · obtain ⟨y, m, d, s, hi, hs⟩ := of_time u hu.1 hu.2
    have hy := (year_short hi).2 hr
    have hl := Tm.txt_length_le y m d s 2
    have hz : (⟨(Tm.short y m d s).toArray⟩ : ByteArray).size ≤ 1000 := by simp [ByteArray.size, Tm.short]; omega
    refine ⟨_, hz, .inl ⟨fun w => short_yes u y m d s w hr.1 hr.2 (Lib.hid hi) (Lib.hid hs), fun w => ?_⟩⟩
    refine (parseShort_any _ w (by omega)).mono ?_
    rintro e w' ⟨rfl, hq⟩
    have hb := Pr.short_back hi hs (by omega) (by omega)
    refine ⟨?_, quiet_below hq⟩
    show Ending.returned (shortVal (Pr.shortO (Tm.short y m d s))) = _
    rw [hb]; rfl
  · exact ⟨⟨#[]⟩, by decide, .inr fun w => same_below (short_no u w (by omega))⟩
/-- What is read of a text is written as the text. -/
theorem text_both_ways (s : ByteArray) (hs : s.size ≤ 9223372036854775807) : (∃ a b e : Int, (e == 0) = false ∧ ∀ w, Calls Tryd.prog 40 #[.string s] w fun k w' => k = .returned (.tuple #[.int .i64 a, .int .i64 b, .int .i64 e]) ∧ Below w.heap.size w w') ∨
    (∃ a b : Int, (∀ w, Calls Tryd.prog 40 #[.string s] w fun k w' => k = .returned (.tuple #[.int .i64 a, .int .i64 b, .int .i64 0]) ∧ Below w.heap.size w w') ∧
      (∀ w, Calls Tryd.prog 23 #[.int .i64 a, .int .i64 b] w fun k w' => k = .returned (.tuple #[.string s, .int .i64 0]) ∧ Below w.heap.size w w')) := by
  cases ho : Pr.longO s.data.toList with
  | none =>
    refine .inl ⟨0, 0, 21, by decide, fun w => ?_⟩
    refine (parseLong_any s w hs).mono ?_
    rintro e w' ⟨rfl, hq⟩
    rw [ho]
    exact ⟨rfl, quiet_below hq⟩
  | some p =>
    obtain ⟨a, b⟩ := p
    obtain ⟨y, m, d, x, v, hi, hx, rfl, hv, hl⟩ := Pr.long_text ho
    have hr := Pr.is_range hi
    refine .inr ⟨a, v, fun w => ?_, fun w => ?_⟩
    · refine (parseLong_any s w hs).mono ?_
      rintro e w' ⟨rfl, hq⟩
      rw [ho]
      exact ⟨rfl, quiet_below hq⟩
    · refine (long_yes a y m d x v w hr.1 hr.2 hv (Lib.hid hi) (Lib.hid hx)).mono ?_
      rintro e w' ⟨rfl, hb⟩
      rw [← hl, ba_of]
      exact ⟨rfl, hb⟩
set_option maxRecDepth 100000 in
set_option maxHeartbeats 4000000 in
theorem textTimeBack_walk (t micros : Int) (s : ByteArray) (w : World) (h0 : -9223372036854775808 ≤ t) (h1 : t ≤ 9223372036854775807) (m0 : -9223372036854775808 ≤ micros) (m1 : micros ≤ 9223372036854775807) (hs : s.size ≤ 9223372036854775807) (hT : Lib.Utf8Tabs 0 1 w) :
    Calls Tryd.prog 13 #[.int .i64 t, .int .i64 micros, .string s] w fun e w' => e = .returned (.bool true) ∧ Below w.heap.size w w' := by
  have HT := Lib.hid hT
  have HS := Lib.hid (text_both_ways s hs)
  clear hT
  go_enter Tryd.func13, Tryd.ntmps13
  go_wp2_with fail
  refine (within_any t _ h0 h1).mono ?_
  rintro _ w1 ⟨u, rfl, hu, rfl⟩
  go_wp2_with fail
  refine (among_any micros 1000000 _ m0 m1 (by omega) (by omega)).mono ?_
  rintro _ w1 ⟨v, rfl, hv0, hv1, rfl⟩
  obtain ⟨v, rfl⟩ : ∃ k : Nat, v = k := ⟨v.toNat, by omega⟩
  obtain ⟨x, _, HL, HP⟩ := long_both_ways u v hu (by omega)
  obtain ⟨z, _, HZ⟩ := short_both_ways u hu
  have HL' := Lib.hid HL
  have HP' := Lib.hid HP
  clear HL HP h0 h1 m0 m1 hu hv0 hv1
  go_wp2_with fail
  refine (HL'.out _).mono ?_
  rintro _ w2 ⟨rfl, hb⟩
  have Hb2 := Lib.hid hb
  clear hb
  go_wp2_with fail
  refine (HP'.out _).mono ?_
  rintro _ w3 ⟨rfl, hb⟩
  have Hb3 := Lib.hid (Hb2.out.trans (hb.mono Hb2.out.size))
  clear hb Hb2
  rcases HZ with ⟨HA, HB⟩ | HA
  · have HA' := Lib.hid HA
    have HB' := Lib.hid HB
    clear HA HB
    go_wp2_with fail
    refine (HA'.out _).mono ?_
    rintro _ w4 ⟨rfl, hb⟩
    have Hb4 := Lib.hid (Hb3.out.trans (hb.mono Hb3.out.size))
    clear hb Hb3
    go_wp2_with fail
    refine (HB'.out _).mono ?_
    rintro _ w5 ⟨rfl, hb⟩
    have Hb5 := Lib.hid (Hb4.out.trans (hb.mono Hb4.out.size))
    clear hb Hb4
    rcases HS.out with ⟨a, b, e, he, HC⟩ | ⟨a, b, HC, HD⟩
    · have he2 : (e != 0) = true := by simpa using he
      have HC' := Lib.hid HC
      clear HC
      go_wp2_with fail
      refine (HC'.out _).mono ?_
      rintro _ w6 ⟨rfl, hb⟩
      have Hb6 := Lib.hid (Hb5.out.trans (hb.mono Hb5.out.size))
      clear hb Hb5
      go_wp2_with fail
      refine (known_any _ (tabs_iter HT.out Hb6.out)).mono ?_
      rintro _ w7 ⟨rfl, hb⟩
      have Hb7 := Lib.hid (Hb6.out.trans (hb.mono Hb6.out.size))
      clear hb Hb6
      go_wp2_with fail
      go_ret
      exact ⟨rfl, Hb7.out⟩
    · have HC' := Lib.hid HC
      have HD' := Lib.hid HD
      clear HC HD
      go_wp2_with fail
      refine (HC'.out _).mono ?_
      rintro _ w6 ⟨rfl, hb⟩
      have Hb6 := Lib.hid (Hb5.out.trans (hb.mono Hb5.out.size))
      clear hb Hb5
      go_wp2_with fail
      refine (HD'.out _).mono ?_
      rintro _ w7 ⟨rfl, hb⟩
      have Hb7 := Lib.hid (Hb6.out.trans (hb.mono Hb6.out.size))
      clear hb Hb6
      go_wp2_with fail
      refine (known_any _ (tabs_iter HT.out Hb7.out)).mono ?_
      rintro _ w8 ⟨rfl, hb⟩
      have Hb8 := Lib.hid (Hb7.out.trans (hb.mono Hb7.out.size))
      clear hb Hb7
      go_wp2_with fail
      go_ret
      exact ⟨rfl, Hb8.out⟩
  · have HA' := Lib.hid HA
    clear HA
    go_wp2_with fail
    refine (HA'.out _).mono ?_
    rintro _ w5 ⟨rfl, hb⟩
    have Hb5 := Lib.hid (Hb3.out.trans (hb.mono Hb3.out.size))
    clear hb Hb3
    rcases HS.out with ⟨a, b, e, he, HC⟩ | ⟨a, b, HC, HD⟩
    · have he2 : (e != 0) = true := by simpa using he
      have HC' := Lib.hid HC
      clear HC
      go_wp2_with fail
      refine (HC'.out _).mono ?_
      rintro _ w6 ⟨rfl, hb⟩
      have Hb6 := Lib.hid (Hb5.out.trans (hb.mono Hb5.out.size))
      clear hb Hb5
      go_wp2_with fail
      refine (known_any _ (tabs_iter HT.out Hb6.out)).mono ?_
      rintro _ w7 ⟨rfl, hb⟩
      have Hb7 := Lib.hid (Hb6.out.trans (hb.mono Hb6.out.size))
      clear hb Hb6
      go_wp2_with fail
      go_ret
      exact ⟨rfl, Hb7.out⟩
    · have HC' := Lib.hid HC
      have HD' := Lib.hid HD
      clear HC HD
      go_wp2_with fail
      refine (HC'.out _).mono ?_
      rintro _ w6 ⟨rfl, hb⟩
      have Hb6 := Lib.hid (Hb5.out.trans (hb.mono Hb5.out.size))
      clear hb Hb5
      go_wp2_with fail
      refine (HD'.out _).mono ?_
      rintro _ w7 ⟨rfl, hb⟩
      have Hb7 := Lib.hid (Hb6.out.trans (hb.mono Hb6.out.size))
      clear hb Hb6
      go_wp2_with fail
      refine (known_any _ (tabs_iter HT.out Hb7.out)).mono ?_
      rintro _ w8 ⟨rfl, hb⟩
      have Hb8 := Lib.hid (Hb7.out.trans (hb.mono Hb7.out.size))
      clear hb Hb7
      go_wp2_with fail
      go_ret
      exact ⟨rfl, Hb8.out⟩
end Go.Proofs.YtehdbceemdpbaaaDoor
