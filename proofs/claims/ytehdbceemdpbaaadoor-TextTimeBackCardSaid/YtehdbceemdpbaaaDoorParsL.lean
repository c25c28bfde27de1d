/- The walk of ParseLong of the program. -/
import Derived.Test.YtehdbceemdpbaaaDoorParsP
namespace Go.Proofs.YtehdbceemdpbaaaDoor
open Go Go.RowKit

set_option maxHeartbeats 2000000 in
set_option maxRecDepth 100000 in
theorem parseLong_more (s : ByteArray) (w : World) (hlo : ¬ s.size < 15) (hhi : ¬ 22 < s.size) (hz : PlainAid.bt s (s.size - 1) = 90) (h15 : ¬ s.size = 15) :
    Calls Tryd.prog 40 #[.string s] w fun e w' => e = .returned (longVal (Pr.longO s.data.toList)) ∧ ∃ n, w' = w.drewN n := by
  have hsz : s.size = s.data.toList.length := Lib.size_eq s
  have hb := PlainAid.get_bt s
  have e1 := lb_bt s (s.size - 1)
  have e2 := lb_bt s (s.size - 2)
  have e14 := lb_bt s 14
  have ra := twP_range s.data.toList 0
  have rb := twP_range s.data.toList 2
  obtain ⟨a, ha⟩ : ∃ a, a = twP s.data.toList 0 := ⟨_, rfl⟩
  obtain ⟨b, hbb⟩ : ∃ b, b = twP s.data.toList 2 := ⟨_, rfl⟩
  obtain ⟨o, ho⟩ : ∃ o, o = Pr.momO (a * 100 + b) s.data.toList 4 := ⟨_, rfl⟩
  have Ho : Hid (o = Pr.momO (a * 100 + b) (s.extract 4 14).data.toList 0) := by show _ = _; rw [mom_ext _ s 4]; exact ho
  have he : (s.extract 4 14).size = 10 := by simp; omega
  have He := Lib.hid he
  have Ha := Lib.hid ha
  have Hb := Lib.hid hbb
  have HO := Lib.hid ho
  rw [← ha] at ra
  rw [← hbb] at rb
  obtain ⟨ra0, ra1⟩ := ra
  obtain ⟨rb0, rb1⟩ := rb
  have q0 : s.size ≤ 1000 := by omega
  have q1 : 1 < s.size := by omega
  have q3 : 3 < s.size := by omega
  have q9 : a * 100 + b ≤ 9999 := by omega
  have q14 : (14 : Int) ≤ (s.size : Int) := by omega
  have qw1 : IntKind.i64.wrap (a * 100) = a * 100 := IntWalk.i64_in _ (by omega)
  have qw2 : IntKind.i64.wrap (a * 100 + b) = a * 100 + b := IntWalk.i64_in _ (by omega)
  clear he ha hbb ho
  by_cases hok : PlainAid.bt s 14 = 46 ∧ s.size ≠ 16 ∧ PlainAid.bt s (s.size - 2) ≠ 48
  · obtain ⟨hd, h16, h48⟩ := hok
    have hd2 : (PlainAid.bt s (s.size - 2) == 48) = false := by simpa using h48
    have h162 : ((s.size : Int) == 16) = false := by simp; omega
    have hg : 17 ≤ s.size := by omega
    have hfl := frac_len (l := s.data.toList) (by omega) (by omega)
    have HF : Hid ((Pr.frac s.data.toList).all Pr.isDig = true → Pr.Form s.data.toList) := by
      intro h
      refine ⟨by omega, by omega, by omega, ?_, fun _ => ⟨?_, ?_, h⟩⟩
      · rw [← hsz, e1]; exact hz
      · rw [e14]; exact hd
      · rw [← hsz, e2]; exact h48
    have Hfl := Lib.hid hfl
    have Hsz := Lib.hid hsz
    clear h15 hsz e1 e2 e14 hfl h48 h16
    go_enter Tryd.func40, Tryd.ntmps40
    go_wp2_with fail
    go_loop [6, 42] (fun t6 t42 => ∃ k n : Nat, t6 = .int .i64 n ∧ t42 = .int .i64 k ∧ k ≤ 6 ∧ Hid (FI s.data.toList k n)) (fun _ t42 => (6 - intOf t42).toNat)
    case atStart => exact ⟨0, 0, rfl, rfl, Nat.zero_le _, FI.start _⟩
    case round =>
      obtain ⟨k, n, rfl, rfl, hk, HI⟩ := hrel
      have hn6 : n < 1000000 ∨ k = 7 := by
        have h1 := HI.out.lt
        have h2 : 10 ^ k ≤ 10 ^ 6 := Nat.pow_le_pow_right (by decide) hk
        omega
      have hn : n < 1000000 := by omega
      clear hn6
      by_cases h6 : k < 6
      · by_cases hin : 15 + k < s.size - 1
        · have hfa := frac_at (l := s.data.toList) (by have := Hsz.out; omega) (by have := Hsz.out; omega) (k := k) (by have := Hsz.out; omega)
          rw [lb_bt] at hfa
          obtain ⟨c, hc⟩ : ∃ c, c = (Pr.frac s.data.toList).getD k 0 := ⟨_, rfl⟩
          rw [← hc] at hfa
          have hc8 := c.toNat_lt
          have hi1 : 15 + (k : Int) < (s.size : Int) - 1 := by omega
          have hb15 := hb (15 + k) (by omega)
          rw [← hfa] at hb15
          have hfa2 : PlainAid.bt s (15 + k) = (c.toNat : Int) := hfa.symm
          by_cases hdig : 48 ≤ c.toNat ∧ c.toNat ≤ 57
          · have Hn := Lib.hid (HI.out.next (by have := Hfl.out; omega) (by rw [← hc]; exact hdig))
            rw [← hc] at Hn
            obtain ⟨hdig0, hdig1⟩ := hdig
            clear hc hfa hb15
            go_wp2_with fail
            go_round
            case rel => exact ⟨_, _, _, _, _, _, _, ⟨k + 1, n * 10 + (c.toNat - 48), by go_num, by go_num, by omega, Hn⟩, rfl, rfl, rfl, rfl, rfl, rfl, rfl⟩
            case measure => simp [intOf]; omega
          · have Hf := Lib.hid (long_none (l := s.data.toList) (fun h => FI.bad (l := s.data.toList) (k := k) (by have := Hfl.out; omega) (by rw [← hc]; exact hdig) (h.1.2.2.2.2 (by have := Hsz.out; omega)).2.2))
            clear hc hfa hb15
            by_cases hlow : c.toNat < 48
            · clear hdig
              go_wp2_with fail
              go_ret3
              exact ⟨by rw [Hf.out]; rfl, 0, rfl⟩
            · have hup : 57 < c.toNat := by omega
              clear hdig
              go_wp2_with fail
              go_ret3
              exact ⟨by rw [Hf.out]; rfl, 0, rfl⟩
        · have hfe := frac_end (l := s.data.toList) (by have := Hsz.out; omega) (by have := Hsz.out; omega) (k := k) (by have := Hsz.out; omega) h6
          have Hn := Lib.hid (HI.out.next (by have := Hfl.out; omega) (by rw [hfe]; decide))
          rw [hfe] at Hn
          have hi1 : ¬ 15 + (k : Int) < (s.size : Int) - 1 := by omega
          clear hfe
          go_wp2_with fail
          go_round
          case rel => exact ⟨k + 1, n * 10 + ((48 : UInt8).toNat - 48), by go_num, by go_num, by omega, Hn⟩
          case measure => simp [intOf]; omega
      · obtain rfl : k = 6 := by omega
        have Hf : Hid (longVal (Pr.longO s.data.toList) = longM o n) := by
          have h1 := HI.out
          have h2 : (Pr.frac s.data.toList).take 6 = Pr.frac s.data.toList := List.take_of_length_le (by have := Hfl.out; omega)
          have h3 := h1.hd
          have h4 := h1.hn
          rw [h2] at h3 h4
          refine long_tail (HF.out h3) Ha.out Hb.out HO.out ?_
          rw [if_neg (by have := Hsz.out; omega), h4]
        go_wp2_with fail
        cases o with
        | none =>
          go_quiet (first | (go_at_call 60; first | (with_reducible exact Calls.quiet_of (two_0 s a _ q0 q1 Ha)) | (with_reducible exact Calls.quiet_of (two_2 s b _ q0 q3 Hb))) | (go_at_call 61; exact Calls.quiet_of (moment_none _ (a * 100 + b) _ _ He.out q9 rfl Ho)))
          go_wp2_with fail
          go_ret3
          exact ⟨by rw [Hf.out]; rfl, _, rfl⟩
        | some t =>
          go_quiet (first | (go_at_call 60; first | (with_reducible exact Calls.quiet_of (two_0 s a _ q0 q1 Ha)) | (with_reducible exact Calls.quiet_of (two_2 s b _ q0 q3 Hb))) | (go_at_call 61; exact Calls.quiet_of (moment_some _ (a * 100 + b) t _ _ He.out q9 rfl Ho)))
          go_wp2_with fail
          go_ret3
          exact ⟨by rw [Hf.out]; rfl, _, rfl⟩
  · have Hf := Lib.hid (long_none (l := s.data.toList) (fun h => by
      have h1 := h.1.2.2.1
      have h2 := h.1.2.2.2.2 (by omega)
      rw [e14, ← hsz, e2] at h2
      exact hok ⟨h2.1, by omega, h2.2.1⟩))
    have hg : 16 ≤ s.size := by omega
    by_cases hd : PlainAid.bt s 14 = 46
    · by_cases h16 : s.size = 16
      · have h161 : ((s.size : Int) == 16) = true := by simp; omega
        clear hok h15 hsz e1 e2 e14 h16
        go_enter Tryd.func40, Tryd.ntmps40
        go_wp2_with fail
        go_ret3
        exact ⟨by rw [Hf.out]; rfl, 0, rfl⟩
      · have h48 : PlainAid.bt s (s.size - 2) = 48 := by
          by_cases h48 : PlainAid.bt s (s.size - 2) = 48
          · exact h48
          · exact absurd ⟨hd, h16, h48⟩ hok
        have h162 : ((s.size : Int) == 16) = false := by simp; omega
        clear hok h15 hsz e1 e2 e14 h16
        go_enter Tryd.func40, Tryd.ntmps40
        go_wp2_with fail
        go_ret3
        exact ⟨by rw [Hf.out]; rfl, 0, rfl⟩
    · have hd1 : (PlainAid.bt s 14 == 46) = false := by simpa using hd
      have hd2 : (PlainAid.bt s 14 != 46) = true := by simpa using hd
      clear hok h15 hsz e1 e2 e14 hd
      go_enter Tryd.func40, Tryd.ntmps40
      go_wp2_with fail
      go_ret3
      exact ⟨by rw [Hf.out]; rfl, 0, rfl⟩
set_option maxHeartbeats 4000000 in
set_option maxRecDepth 100000 in
theorem parseLong_any (s : ByteArray) (w : World) (hs : s.size ≤ 9223372036854775807) :
    Calls Tryd.prog 40 #[.string s] w fun e w' => e = .returned (longVal (Pr.longO s.data.toList)) ∧ ∃ n, w' = w.drewN n := by
  have hsz : s.size = s.data.toList.length := Lib.size_eq s
  have hb := PlainAid.get_bt s
  by_cases hlo : s.size < 15
  · have Hf := Lib.hid (long_none (l := s.data.toList) (fun h => by have := h.1.1; omega))
    clear hsz hb
    go_enter Tryd.func40, Tryd.ntmps40
    go_wp2_with fail
    go_ret3
    exact ⟨by rw [Hf.out]; rfl, 0, rfl⟩
  by_cases hhi : 22 < s.size
  · have Hf := Lib.hid (long_none (l := s.data.toList) (fun h => by have := h.1.2.1; omega))
    clear hsz hb
    go_enter Tryd.func40, Tryd.ntmps40
    go_wp2_with fail
    go_ret3
    exact ⟨by rw [Hf.out]; rfl, 0, rfl⟩
  have e1 := lb_bt s (s.size - 1)
  have e2 := lb_bt s (s.size - 2)
  have e14 := lb_bt s 14
  by_cases hz : PlainAid.bt s (s.size - 1) = 90
  · by_cases h15 : s.size = 15
    · exact parseLong_15 s w hlo hhi hz h15
    · exact parseLong_more s w hlo hhi hz h15
  · have Hf := Lib.hid (long_none (l := s.data.toList) (fun h => by have := h.1.2.2.2.1; rw [← hsz] at this; omega))
    have hz1 : (PlainAid.bt s (s.size - 1) == 90) = false := by simpa using hz
    have hz2 : (PlainAid.bt s (s.size - 1) != 90) = true := by simpa using hz
    clear hz hsz e1 e2 e14
    go_enter Tryd.func40, Tryd.ntmps40
    go_wp2_with fail
    go_ret3
    exact ⟨by rw [Hf.out]; rfl, 0, rfl⟩
end Go.Proofs.YtehdbceemdpbaaaDoor
