/- The walk of the statement about object identifiers' bytes. -/
import Derived.Test.YtehdbceemdpbaaaDoorFolds
import Derived.Test.YtehdbceemdpbaaaDoorOidR
namespace Go.Proofs.YtehdbceemdpbaaaDoor
open Go Go.RowKit

/-- Two rows of the same bytes are the same. -/
theorem same_yes (v v' : Value) (l : List UInt8) (w : World) (h : ∃ B A c, v = .slice A l.length c ∧ Reads w B 1 A l.length (Lib.byteCells l)) (h' : ∃ B A c, v' = .slice A l.length c ∧ Reads w B 1 A l.length (Lib.byteCells l)) :
    Calls Tryd.prog 20 #[v, v'] w fun e w' => e = .returned (.bool true) ∧ w = w' := by
  obtain ⟨B, A, c, rfl, hr⟩ := h
  obtain ⟨B', A', c', rfl, hr'⟩ := h'
  have H1 : (convert 25 9 (.slice A l.length c)).run Tryd.prog w = .ok (.string ⟨l.toArray⟩) w := run_tostr Tryd.underlying25 Tryd.underlying5 Tryd.underlying9 hr
  have H2 : (convert 25 9 (.slice A' l.length c')).run Tryd.prog w = .ok (.string ⟨l.toArray⟩) w := run_tostr Tryd.underlying25 Tryd.underlying5 Tryd.underlying9 hr'
  clear hr hr'
  go_enter Tryd.func20, Tryd.ntmps20
  go_wp2_with fail
  go_ret
  exact ⟨rfl, rfl⟩
set_option maxRecDepth 100000 in
set_option maxHeartbeats 2000000 in
theorem textOids_walk (s : ByteArray) (w : World) (hs : s.size ≤ 9223372036854775807) (hT : Lib.Utf8Tabs 0 1 w) :
    Calls Tryd.prog 4 #[.string s] w fun e w' => e = .returned (.bool true) ∧ Below w.heap.size w w' := by
  have HT := Lib.hid hT
  clear hT
  by_cases hl : 2000 < s.size
  · go_enter Tryd.func4, Tryd.ntmps4
    go_wp2_with fail
    refine (long_yes' s _ hs hl).mono ?_
    rintro _ w1 ⟨rfl, rfl⟩
    go_wp2_with fail
    refine (known_any _ HT.out).mono ?_
    rintro _ w7 ⟨rfl, hb⟩
    go_wp2_with fail
    go_ret
    exact ⟨rfl, hb⟩
  · go_enter Tryd.func4, Tryd.ntmps4
    go_wp2_with fail
    refine (long_no' s _ (by omega)).mono ?_
    rintro _ w1 ⟨rfl, rfl⟩
    go_wp2_with fail
    refine (oidBytes_any s _ (by omega)).mono ?_
    intro e w1 h1
    unfold OidPost at h1
    cases he : Od.enc s.data.toList with
    | none =>
      rw [he] at h1
      obtain ⟨rfl, hb⟩ := h1
      have Hb1 := Lib.hid hb
      clear hb
      go_wp2_with fail
      refine (refoid_any s _ (by omega)).mono ?_
      intro e w2 h2
      unfold OidPost at h2
      rw [he] at h2
      obtain ⟨rfl, hb⟩ := h2
      have Hb2 := Lib.hid (Hb1.out.trans (hb.mono Hb1.out.size))
      clear hb Hb1
      go_wp2_with fail
      refine (same_yes _ _ [] _ (own_str (own_nil8 w2 0)) (own_str (own_nil8 w2 0))).mono ?_
      rintro _ w3 ⟨rfl, rfl⟩
      go_wp2_with fail
      refine (known_any _ (tabs_iter HT.out Hb2.out)).mono ?_
      rintro _ w7 ⟨rfl, hb⟩
      have Hb7 := Lib.hid (Hb2.out.trans (hb.mono Hb2.out.size))
      clear hb Hb2
      go_wp2_with fail
      go_ret
      exact ⟨rfl, Hb7.out⟩
    | some out =>
      rw [he] at h1
      obtain ⟨v, rfl, hrow, hb⟩ := h1
      have Hb1 := Lib.hid hb
      have Hrow := Lib.hid hrow
      clear hb hrow
      go_wp2_with fail
      refine (refoid_any s _ (by omega)).mono ?_
      intro e w2 h2
      unfold OidPost at h2
      rw [he] at h2
      obtain ⟨v2, rfl, hrow2, hb⟩ := h2
      have Hrow' := Lib.hid (own_below Hrow.out hb)
      have Hrow2 := Lib.hid hrow2
      have Hb2 := Lib.hid (Hb1.out.trans (hb.mono Hb1.out.size))
      clear hb Hb1 hrow2 Hrow
      go_wp2_with fail
      refine (same_yes _ _ out _ (own_str Hrow'.out) (own_str Hrow2.out)).mono ?_
      rintro _ w3 ⟨rfl, rfl⟩
      go_wp2_with fail
      refine (known_any _ (tabs_iter HT.out Hb2.out)).mono ?_
      rintro _ w7 ⟨rfl, hb⟩
      have Hb7 := Lib.hid (Hb2.out.trans (hb.mono Hb2.out.size))
      clear hb Hb2
      go_wp2_with fail
      go_ret
      exact ⟨rfl, Hb7.out⟩
end Go.Proofs.YtehdbceemdpbaaaDoor
