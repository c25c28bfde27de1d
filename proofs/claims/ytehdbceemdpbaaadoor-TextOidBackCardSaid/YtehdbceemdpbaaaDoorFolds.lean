/- The walk of the statement that any text is folded. -/
import Derived.Test.YtehdbceemdpbaaaDoorKnown
import Derived.Test.YtehdbceemdpbaaaDoorFoldR
namespace Go.Proofs.YtehdbceemdpbaaaDoor
open Go Go.RowKit

theorem long_yes' (s : ByteArray) (w : World) (hs : s.size ≤ 9223372036854775807) (h : 2000 < s.size) :
    Calls Tryd.prog 14 #[.string s] w fun e w' => e = .returned (.bool true) ∧ w = w' := by
  go_enter Tryd.func14, Tryd.ntmps14
  go_wp2_with fail
  go_ret
  have e : decide (2000 < (s.size : Int)) = true := by simp; omega
  exact ⟨by show Ending.returned (.bool (decide (2000 < (s.size : Int)))) = _; rw [e], rfl⟩
theorem long_no' (s : ByteArray) (w : World) (h : s.size ≤ 2000) :
    Calls Tryd.prog 14 #[.string s] w fun e w' => e = .returned (.bool false) ∧ w = w' := by
  go_enter Tryd.func14, Tryd.ntmps14
  go_wp2_with fail
  go_ret
  have e : decide (2000 < (s.size : Int)) = false := by simp; omega
  exact ⟨by show Ending.returned (.bool (decide (2000 < (s.size : Int)))) = _; rw [e], rfl⟩
set_option maxRecDepth 100000 in
set_option maxHeartbeats 2000000 in
theorem textFolds_walk (s : ByteArray) (w : World) (hs : s.size ≤ 9223372036854775807) (hT : Lib.Utf8Tabs 0 1 w) :
    Calls Tryd.prog 3 #[.string s] w fun e w' => e = .returned (.bool true) ∧ Below w.heap.size w w' := by
  have HT := Lib.hid hT
  clear hT
  by_cases hl : 2000 < s.size
  · go_enter Tryd.func3, Tryd.ntmps3
    go_wp2_with fail
    refine (long_yes' s _ hs hl).mono ?_
    rintro _ w1 ⟨rfl, rfl⟩
    go_wp2_with fail
    go_ret
    exact ⟨rfl, Below.refl _ _⟩
  · go_enter Tryd.func3, Tryd.ntmps3
    go_wp2_with fail
    refine (long_no' s _ (by omega)).mono ?_
    rintro _ w1 ⟨rfl, rfl⟩
    go_wp2_with fail
    refine (fold_any s _ (by omega) HT.out).mono ?_
    rintro _ w1 ⟨rfl, hb⟩
    have Hb1 := Lib.hid hb
    clear hb
    go_wp2_with fail
    refine (reffold_any s _ (by omega)).mono ?_
    rintro _ w2 ⟨rfl, hb⟩
    have Hb2 := Lib.hid (Hb1.out.trans (hb.mono Hb1.out.size))
    clear hb Hb1
    go_wp2_with fail
    refine (known_any _ (tabs_iter HT.out Hb2.out)).mono ?_
    rintro _ w7 ⟨rfl, hb⟩
    have Hb7 := Lib.hid (Hb2.out.trans (hb.mono Hb2.out.size))
    clear hb Hb2
    go_wp2_with fail
    go_ret
    exact ⟨rfl, Hb7.out⟩
end Go.Proofs.YtehdbceemdpbaaaDoor
