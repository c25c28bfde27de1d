/- The walk of the statement about times as texts and their dates. -/
import Derived.Test.YtehdbceemdpbaaaDoorKnown
import Derived.Test.YtehdbceemdpbaaaDoorTimeR2
namespace Go.Proofs.YtehdbceemdpbaaaDoor
open Go Go.RowKit

/-- Both answer alike, whatever the world. -/
def Both (f g : FuncId) (args : Array Value) (v : Value) : Prop :=
  (∀ w, Calls Tryd.prog f args w fun e w' => e = .returned v ∧ Below w.heap.size w w') ∧ (∀ w, Calls Tryd.prog g args w fun e w' => e = .returned v ∧ Below w.heap.size w w')
theorem same_below {f : FuncId} {args : Array Value} {v : Value} {w : World} (h : Calls Tryd.prog f args w fun e w' => e = .returned v ∧ w = w') : Calls Tryd.prog f args w fun e w' => e = .returned v ∧ Below w.heap.size w w' :=
  h.mono fun _ _ ⟨h1, h2⟩ => ⟨h1, by subst h2; exact Below.refl _ _⟩
theorem of_time (t : Int) (h0 : -62167219200 ≤ t) (h1 : t ≤ 253402300799) : ∃ y m d s : Nat, Cal.Is ((t + 62167219200) / 86400) y m d ∧ (s : Int) = (t + 62167219200) % 86400 := by
  obtain ⟨y, m, d, hi⟩ := Cal.ex ((t + 62167219200) / 86400) (by omega) (by omega)
  have hy0 := hi.y0; have hm0 := hi.m0; have hd0 := hi.d0
  obtain ⟨y', rfl⟩ : ∃ k : Nat, y = k := ⟨y.toNat, by omega⟩
  obtain ⟨m', rfl⟩ : ∃ k : Nat, m = k := ⟨m.toNat, by omega⟩
  obtain ⟨d', rfl⟩ : ∃ k : Nat, d = k := ⟨d.toNat, by omega⟩
  exact ⟨y', m', d', ((t + 62167219200) % 86400).toNat, hi, by omega⟩
theorem year_short {t y m d : Int} (h : Cal.Is ((t + 62167219200) / 86400) y m d) : (1950 ≤ y ∧ y ≤ 2049) ↔ (-631152000 ≤ t ∧ t ≤ 2524607999) := by
  have hw := h.within
  have e0 : Cal.dby 1950 = 712223 := by decide +kernel
  have e1 : Cal.dby 2050 = 748748 := by decide +kernel
  constructor
  · rintro ⟨a, b⟩
    have := Cal.dby_mono 1950 y a
    have := Cal.dby_mono (y + 1) 2050 (by omega)
    omega
  · rintro ⟨a, b⟩
    constructor
    · rcases (show y < 1950 ∨ 1950 ≤ y by omega) with hl | hl
      · have := Cal.dby_mono (y + 1) 1950 (by omega); omega
      · exact hl
    · rcases (show 2049 < y ∨ y ≤ 2049 by omega) with hl | hl
      · have := Cal.dby_mono 2050 y (by omega); omega
      · exact hl
theorem Tm.long_size (y m d s u : Nat) : (⟨(Tm.long y m d s u).toArray⟩ : ByteArray).size ≤ 1000 := by
  have h1 := Tm.txt_length_le y m d s 4
  have h2 := Dig.dgs_length_le u 6
  unfold Tm.long
  split
  · simp [ByteArray.size]; omega
  · have h3 := Tm.rstrip_len (Tm.txt y m d s 4 ++ 46 :: Dig.dgs u 6)
    simp [ByteArray.size] at h3 ⊢; omega
theorem short_both (t : Int) : ∃ (x : ByteArray) (e : Int), x.size ≤ 1000 ∧ Both 21 22 #[.int .i64 t] (.tuple #[.string x, .int .i64 e]) := by
  by_cases hin : -62167219200 ≤ t ∧ t ≤ 253402300799
  · obtain ⟨y, m, d, s, hi, hs⟩ := of_time t hin.1 hin.2
    have hys := year_short hi
    by_cases hy : 1950 ≤ (y : Int) ∧ (y : Int) ≤ 2049
    · obtain ⟨a, b⟩ := hys.1 hy
      have hl := Tm.txt_length_le y m d s 2
      exact ⟨_, _, by simp [ByteArray.size, Tm.short]; omega, fun w => short_yes t y m d s w a b (Lib.hid hi) (Lib.hid hs), fun w => refshort_yes t y m d s w hin.1 hin.2 (Lib.hid hi) (Lib.hid hs) hy.1 hy.2⟩
    · have hn : ¬ (-631152000 ≤ t ∧ t ≤ 2524607999) := fun h => hy (hys.2 h)
      exact ⟨_, _, by decide, fun w => same_below (short_no t w (by omega)), fun w => same_below (refshort_no t y m d w hin.1 hin.2 (Lib.hid hi) (by omega))⟩
  · exact ⟨_, _, by decide, fun w => same_below (short_no t w (by omega)), fun w => same_below (refshort_out t w (by omega))⟩
theorem long_both (t micros : Int) : ∃ (x : ByteArray) (e : Int), x.size ≤ 1000 ∧ Both 23 24 #[.int .i64 t, .int .i64 micros] (.tuple #[.string x, .int .i64 e]) := by
  by_cases hm : 0 ≤ micros ∧ micros ≤ 999999
  · by_cases hin : -62167219200 ≤ t ∧ t ≤ 253402300799
    · obtain ⟨y, m, d, s, hi, hs⟩ := of_time t hin.1 hin.2
      obtain ⟨u, rfl⟩ : ∃ k : Nat, micros = k := ⟨micros.toNat, by omega⟩
      exact ⟨_, _, Tm.long_size y m d s u, fun w => long_yes t y m d s u w hin.1 hin.2 (by omega) (Lib.hid hi) (Lib.hid hs), fun w => reflong_yes t y m d s u w hin.1 hin.2 (by omega) (Lib.hid hi) (Lib.hid hs)⟩
    · exact ⟨_, _, by decide, fun w => same_below (long_no t micros w hm.1 hm.2 (by omega)), fun w => same_below (reflong_no t micros w hm.1 hm.2 (by omega))⟩
  · exact ⟨_, _, by decide, fun w => same_below (long_arg t micros w (by omega)), fun w => same_below (reflong_arg t micros w (by omega))⟩
theorem date_both (t : Int) : ∃ y m d e : Int, Both 25 26 #[.int .i64 t] (.tuple #[.int .i64 y, .int .i64 m, .int .i64 d, .int .i64 e]) := by
  by_cases hin : -62167219200 ≤ t ∧ t ≤ 253402300799
  · obtain ⟨y, m, d, s, hi, hs⟩ := of_time t hin.1 hin.2
    exact ⟨_, _, _, _, fun w => same_below (date_yes t y m d w hin.1 hin.2 hi), fun w => same_below (refdate_yes t y m d w hin.1 hin.2 hi)⟩
  · exact ⟨_, _, _, _, fun w => same_below (date_no t w (by omega)), fun w => same_below (refdate_no t w (by omega))⟩
set_option maxRecDepth 100000 in
set_option maxHeartbeats 2000000 in
theorem textTimes_walk (t micros : Int) (w : World) (h0 : -9223372036854775808 ≤ t) (h1 : t ≤ 9223372036854775807) (h2 : -9223372036854775808 ≤ micros) (h3 : micros ≤ 9223372036854775807) (hT : Lib.Utf8Tabs 0 1 w) :
    Calls Tryd.prog 5 #[.int .i64 t, .int .i64 micros] w fun e w' => e = .returned (.bool true) ∧ Below w.heap.size w w' := by
  have HT := Lib.hid hT
  clear hT
  obtain ⟨x, e, hx, S⟩ := short_both t
  obtain ⟨x', e', hx', L⟩ := long_both t micros
  obtain ⟨y, m, d, k, D⟩ := date_both t
  have HS := Lib.hid S
  have HL := Lib.hid L
  have HD := Lib.hid D
  clear S L D hx hx'
  go_enter Tryd.func5, Tryd.ntmps5
  go_wp2_with fail
  refine (HS.out.1 _).mono ?_
  rintro _ w1 ⟨rfl, hb⟩
  have Hb1 := Lib.hid hb
  clear hb
  go_wp2_with fail
  refine (HS.out.2 _).mono ?_
  rintro _ w2 ⟨rfl, hb⟩
  have Hb2 := Lib.hid (Hb1.out.trans (hb.mono Hb1.out.size))
  clear hb Hb1
  go_wp2_with fail
  refine (HL.out.1 _).mono ?_
  rintro _ w3 ⟨rfl, hb⟩
  have Hb3 := Lib.hid (Hb2.out.trans (hb.mono Hb2.out.size))
  clear hb Hb2
  go_wp2_with fail
  refine (HL.out.2 _).mono ?_
  rintro _ w4 ⟨rfl, hb⟩
  have Hb4 := Lib.hid (Hb3.out.trans (hb.mono Hb3.out.size))
  clear hb Hb3
  go_wp2_with fail
  refine (HD.out.1 _).mono ?_
  rintro _ w5 ⟨rfl, hb⟩
  have Hb5 := Lib.hid (Hb4.out.trans (hb.mono Hb4.out.size))
  clear hb Hb4
  go_wp2_with fail
  refine (HD.out.2 _).mono ?_
  rintro _ w6 ⟨rfl, hb⟩
  have Hb6 := Lib.hid (Hb5.out.trans (hb.mono Hb5.out.size))
  clear hb Hb5
  go_wp2_with fail
  refine (known_any _ (tabs_iter HT.out Hb6.out)).mono ?_
  rintro _ w7 ⟨rfl, hb⟩
  have Hb7 := Lib.hid (Hb6.out.trans (hb.mono Hb6.out.size))
  clear hb Hb6
  go_wp2_with fail
  go_ret
  exact ⟨rfl, Hb7.out⟩
end Go.Proofs.YtehdbceemdpbaaaDoor
