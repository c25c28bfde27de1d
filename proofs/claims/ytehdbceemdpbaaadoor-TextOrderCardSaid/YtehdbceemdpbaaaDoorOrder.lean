/- The walk of the statement that later times have later texts. -/
import Derived.Test.YtehdbceemdpbaaaDoorDays
import Derived.Test.YtehdbceemdpbaaaDoorTimes
import Derived.Test.YtehdbceemdpbaaaDoorVal
namespace Go.Proofs.YtehdbceemdpbaaaDoor
open Go Go.RowKit

/-- The long text of a time, to the second. -/
theorem long_of (t : Int) (h : In t) : ∃ (l : List UInt8) (y m d s : Nat), l = Tm.txt y m d s 4 ∧ Cal.Is ((t + 62167219200) / 86400) y m d ∧ (s : Int) = (t + 62167219200) % 86400 ∧
    ∀ w, Calls Tryd.prog 23 #[.int .i64 t, .int .i64 0] w fun e w' => e = .returned (.tuple #[.string ⟨(l ++ [90]).toArray⟩, .int .i64 0]) ∧ Below w.heap.size w w' := by
  obtain ⟨y, m, d, s, hi, hs⟩ := of_time t h.1 h.2
  exact ⟨_, y, m, d, s, rfl, hi, hs, fun w => long_yes t y m d s 0 w h.1 h.2 (by omega) (Lib.hid hi) (Lib.hid hs)⟩
theorem bytes_of (l : List UInt8) : (⟨l.toArray⟩ : ByteArray).toList = l := by rw [Lib.toList_data]
/-- What the law compares. -/
theorem order_texts {a b : Int} {y m d s y' m' d' s' : Nat} (h : Cal.Is ((a + 62167219200) / 86400) y m d) (hs : (s : Int) = (a + 62167219200) % 86400) (h' : Cal.Is ((b + 62167219200) / 86400) y' m' d') (hs' : (s' : Int) = (b + 62167219200) % 86400) :
    Op.bytesLess (Tm.txt y m d s 4 ++ [90]) (Tm.txt y' m' d' s' 4 ++ [90]) = decide (a < b) ∧ (Tm.txt y m d s 4 = Tm.txt y' m' d' s' 4 ↔ a = b) := by
  have a1 := h.y1; have a2 := h.m1; have a3 := h.d1; have a4 := Cal.dim_lo y m
  have b1 := h'.y1; have b2 := h'.m1; have b3 := h'.d1; have b4 := Cal.dim_lo y' m'
  obtain ⟨l1, d1, v1⟩ := Vl.txt_facts y m d s (by omega) (by omega) (by omega) (by omega)
  obtain ⟨l2, d2, v2⟩ := Vl.txt_facts y' m' d' s' (by omega) (by omega) (by omega) (by omega)
  have e0 : Op.bytesLess [90] [90] = false := by decide
  rw [Vl.less_app d1 d2 (by omega), v1, v2, e0]
  rcases Int.lt_trichotomy a b with hl | he | hl
  · have hv := Vl.time_less h hs h' hs' hl
    refine ⟨by simp [hl, hv], fun e => ?_, fun e => by omega⟩
    rw [e] at v1; omega
  · subst he
    obtain ⟨e1, e2, e3⟩ := h.one h'
    obtain rfl : y = y' := by omega
    obtain rfl : m = m' := by omega
    obtain rfl : d = d' := by omega
    obtain rfl : s = s' := by omega
    simp
  · have hv := Vl.time_less h' hs' h hs hl
    refine ⟨?_, fun e => ?_, fun e => by omega⟩
    · have n1 : ¬ a < b := by omega
      simp only [n1, decide_false, Bool.and_false, Bool.or_false, decide_eq_false_iff_not]; omega
    · rw [e] at v1; omega
set_option maxRecDepth 100000 in
set_option maxHeartbeats 2000000 in
theorem textOrder_walk (a b : Int) (w : World) (h0 : -9223372036854775808 ≤ a) (h1 : a ≤ 9223372036854775807) (h2 : -9223372036854775808 ≤ b) (h3 : b ≤ 9223372036854775807) (hT : Lib.Utf8Tabs 0 1 w) :
    Calls Tryd.prog 7 #[.int .i64 a, .int .i64 b] w fun e w' => e = .returned (.bool true) ∧ Below w.heap.size w w' := by
  have HT := Lib.hid hT
  clear hT
  go_enter Tryd.func7, Tryd.ntmps7
  go_wp2_with fail
  refine (within_any a _ h0 h1).mono ?_
  rintro _ w1 ⟨u, rfl, hu, rfl⟩
  go_wp2_with fail
  refine (within_any b _ h2 h3).mono ?_
  rintro _ w1 ⟨v, rfl, hv, rfl⟩
  clear h0 h1 h2 h3
  obtain ⟨l, y, m, d, s, hl, hi, hs, L⟩ := long_of u hu
  obtain ⟨l', y', m', d', s', hl', hi', hs', L'⟩ := long_of v hv
  obtain ⟨K1, K2⟩ := order_texts hi hs hi' hs'
  rw [← hl, ← hl'] at K1 K2
  have hlt : (⟨(l ++ [90]).toArray⟩ : ByteArray).toList = l ++ [90] := bytes_of _
  have hlt' : (⟨(l' ++ [90]).toArray⟩ : ByteArray).toList = l' ++ [90] := bytes_of _
  have J1 : (decide (u < v) == Op.bytesLess (⟨(l ++ [90]).toArray⟩ : ByteArray).toList (⟨(l' ++ [90]).toArray⟩ : ByteArray).toList) = true := by
    rw [hlt, hlt', K1]; simp
  have J2 : ((u == v) == ((⟨(l ++ [90]).toArray⟩ : ByteArray).toList == (⟨(l' ++ [90]).toArray⟩ : ByteArray).toList)) = true := by
    rw [hlt, hlt']
    by_cases e : u = v
    · rw [K2.2 e, e]; simp
    · have e2 : ¬ l = l' := fun h => e (K2.1 h)
      have e4 : (l ++ [90] == l' ++ [90]) = false := by
        rw [beq_eq_false_iff_ne]; exact fun h => e2 (List.append_cancel_right h)
      have e5 : (u == v) = false := by rw [beq_eq_false_iff_ne]; exact e
      rw [e4, e5]; rfl
  have HL := Lib.hid L
  have HL' := Lib.hid L'
  obtain ⟨x, hx⟩ : ∃ x : ByteArray, x = ⟨(l ++ [90]).toArray⟩ := ⟨_, rfl⟩
  obtain ⟨x', hx'⟩ : ∃ x : ByteArray, x = ⟨(l' ++ [90]).toArray⟩ := ⟨_, rfl⟩
  rw [← hx] at HL J1 J2
  rw [← hx'] at HL' J1 J2
  clear L L' hx hx' K1 K2 hl hl' hi hs hi' hs' hu hv hlt hlt'
  go_wp2_with fail
  refine (HL.out _).mono ?_
  rintro _ w3 ⟨rfl, hb⟩
  have Hb3 := Lib.hid hb
  clear hb
  go_wp2_with fail
  refine (HL'.out _).mono ?_
  rintro _ w4 ⟨rfl, hb⟩
  have Hb4 := Lib.hid (Hb3.out.trans (hb.mono Hb3.out.size))
  clear hb Hb3
  go_wp2_with fail
  refine (known_any _ (tabs_iter HT.out Hb4.out)).mono ?_
  rintro _ w7 ⟨rfl, hb⟩
  have Hb7 := Lib.hid (Hb4.out.trans (hb.mono Hb4.out.size))
  clear hb Hb4
  go_wp2_with fail
  go_ret
  exact ⟨rfl, Hb7.out⟩
end Go.Proofs.YtehdbceemdpbaaaDoor
