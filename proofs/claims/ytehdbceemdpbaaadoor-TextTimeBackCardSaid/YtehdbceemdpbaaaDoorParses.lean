/- The walk of the statement about texts as times. -/
import Derived.Test.YtehdbceemdpbaaaDoorParsRL
import Derived.Test.YtehdbceemdpbaaaDoorFolds
namespace Go.Proofs.YtehdbceemdpbaaaDoor
open Go Go.RowKit

set_option maxHeartbeats 2000000 in
set_option maxRecDepth 100000 in
theorem refparseLong_any (s : ByteArray) (w : World) (hs : s.size ≤ 1000000) :
    Calls Tryd.prog 41 #[.string s] w fun e w' => e = .returned (longVal (Pr.longO s.data.toList)) ∧ ∃ n, w' = w.drewN n := by
  have hsz : s.size = s.data.toList.length := Lib.size_eq s
  have hb := PlainAid.get_bt s
  by_cases hlo : s.size < 15
  · have Hf := Lib.hid (long_none (l := s.data.toList) (fun h => by have := h.1.1; omega))
    clear hsz hb
    go_enter Tryd.func41, Tryd.ntmps41
    go_wp2_with fail
    go_ret3
    exact ⟨by rw [Hf.out]; rfl, 0, rfl⟩
  by_cases hhi : 22 < s.size
  · have Hf := Lib.hid (long_none (l := s.data.toList) (fun h => by have := h.1.2.1; omega))
    clear hsz hb
    go_enter Tryd.func41, Tryd.ntmps41
    go_wp2_with fail
    go_ret3
    exact ⟨by rw [Hf.out]; rfl, 0, rfl⟩
  have e1 := lb_bt s (s.size - 1)
  by_cases hz : PlainAid.bt s (s.size - 1) = 90
  · by_cases h16 : s.size = 16
    · have Hf := Lib.hid (long_none (l := s.data.toList) (fun h => by have := h.1.2.2.1; omega))
      have h161 : ((s.size : Int) == 16) = true := by simp; omega
      clear hsz e1 h16
      go_enter Tryd.func41, Tryd.ntmps41
      go_wp2_with fail
      go_ret3
      exact ⟨by rw [Hf.out]; rfl, 0, rfl⟩
    · by_cases h15 : s.size = 15
      · exact refparseLong_15 s w hlo hhi hz h15
      · exact refparseLong_more s w hlo hhi hz h15 h16
  · have Hf := Lib.hid (long_none (l := s.data.toList) (fun h => by have := h.1.2.2.2.1; rw [← hsz] at this; omega))
    have hz1 : (PlainAid.bt s (s.size - 1) == 90) = false := by simpa using hz
    have hz2 : (PlainAid.bt s (s.size - 1) != 90) = true := by simpa using hz
    clear hz hsz e1
    go_enter Tryd.func41, Tryd.ntmps41
    go_wp2_with fail
    go_ret3
    exact ⟨by rw [Hf.out]; rfl, 0, rfl⟩
theorem quiet_below {w w' : World} (h : ∃ n, w' = w.drewN n) : Below w.heap.size w w' := by
  obtain ⟨n, rfl⟩ := h
  exact below_drewN (Below.refl _ _) _
theorem shortVal_ex (o : Option Int) : ∃ a e : Int, shortVal o = .tuple #[.int .i64 a, .int .i64 e] := by
  cases o with
  | none => exact ⟨_, _, rfl⟩
  | some t => exact ⟨_, _, rfl⟩
theorem longVal_ex (o : Option (Int × Int)) : ∃ a b e : Int, longVal o = .tuple #[.int .i64 a, .int .i64 b, .int .i64 e] := by
  cases o with
  | none => exact ⟨_, _, _, rfl⟩
  | some t => exact ⟨_, _, _, rfl⟩
set_option maxRecDepth 100000 in
set_option maxHeartbeats 2000000 in
theorem textParses_walk (s : ByteArray) (w : World) (hs : s.size ≤ 9223372036854775807) (hT : Lib.Utf8Tabs 0 1 w) :
    Calls Tryd.prog 12 #[.string s] w fun e w' => e = .returned (.bool true) ∧ Below w.heap.size w w' := by
  have HT := Lib.hid hT
  clear hT
  by_cases hl : 2000 < s.size
  · go_enter Tryd.func12, Tryd.ntmps12
    go_wp2_with fail
    refine (long_yes' s _ hs hl).mono ?_
    rintro _ w1 ⟨rfl, rfl⟩
    go_wp2_with fail
    refine (known_any _ HT.out).mono ?_
    rintro _ w7 ⟨rfl, hb⟩
    go_wp2_with fail
    go_ret
    exact ⟨rfl, hb⟩
  · obtain ⟨a, e, hse⟩ := shortVal_ex (Pr.shortO s.data.toList)
    obtain ⟨c, m, g, hle⟩ := longVal_ex (Pr.longO s.data.toList)
    have Hse := Lib.hid hse
    have Hle := Lib.hid hle
    clear hse hle
    go_enter Tryd.func12, Tryd.ntmps12
    go_wp2_with fail
    refine (long_no' s _ (by omega)).mono ?_
    rintro _ w1 ⟨rfl, rfl⟩
    go_wp2_with fail
    refine (parseShort_any s _ (by omega)).mono ?_
    rintro _ w1 ⟨rfl, hb⟩
    rw [Hse.out]
    have Hb1 := Lib.hid (quiet_below hb)
    clear hb
    go_wp2_with fail
    refine (refparseShort_any s _ (by omega)).mono ?_
    rintro _ w2 ⟨rfl, hb⟩
    rw [Hse.out]
    have Hb2 := Lib.hid (Hb1.out.trans ((quiet_below hb).mono Hb1.out.size))
    clear hb Hb1
    go_wp2_with fail
    refine (parseLong_any s _ (by omega)).mono ?_
    rintro _ w3 ⟨rfl, hb⟩
    rw [Hle.out]
    have Hb3 := Lib.hid (Hb2.out.trans ((quiet_below hb).mono Hb2.out.size))
    clear hb Hb2
    go_wp2_with fail
    refine (refparseLong_any s _ (by omega)).mono ?_
    rintro _ w4 ⟨rfl, hb⟩
    rw [Hle.out]
    have Hb4 := Lib.hid (Hb3.out.trans ((quiet_below hb).mono Hb3.out.size))
    clear hb Hb3
    go_wp2_with fail
    refine (known_any _ (tabs_iter HT.out Hb4.out)).mono ?_
    rintro _ w7 ⟨rfl, hb⟩
    have Hb7 := Lib.hid (Hb4.out.trans (hb.mono Hb4.out.size))
    clear hb Hb4
    go_wp2_with fail
    go_ret
    exact ⟨rfl, Hb7.out⟩
end Go.Proofs.YtehdbceemdpbaaaDoor
