/- The walk of the statement which texts a text may be. -/
import Derived.Test.YtehdbceemdpbaaaDoorSetsR
namespace Go.Proofs.YtehdbceemdpbaaaDoor
open Go Go.RowKit

set_option maxRecDepth 100000 in
set_option maxHeartbeats 2000000 in
theorem textSets_walk (s : ByteArray) (w : World) (hs : s.size ≤ 9223372036854775807) (hT : Lib.Utf8Tabs 0 1 w) :
    Calls Tryd.prog 9 #[.string s] w fun e w' => e = .returned (.bool true) ∧ Below w.heap.size w w' := by
  have HT := Lib.hid hT
  clear hT
  by_cases hl : 2000 < s.size
  · go_enter Tryd.func9, Tryd.ntmps9
    go_wp2_with fail
    refine (long_yes' s _ hs hl).mono ?_
    rintro _ w1 ⟨rfl, rfl⟩
    go_wp2_with fail
    go_ret
    exact ⟨rfl, Below.refl _ _⟩
  · obtain ⟨b1, hb1⟩ : ∃ b, b = Utf.ok s := ⟨_, rfl⟩
    obtain ⟨b2, hb2⟩ : ∃ b, b = St.pr s := ⟨_, rfl⟩
    obtain ⟨b3, hb3⟩ : ∃ b, b = St.ia s := ⟨_, rfl⟩
    go_enter Tryd.func9, Tryd.ntmps9
    go_wp2_with fail
    refine (long_no' s _ (by omega)).mono ?_
    rintro _ w1 ⟨rfl, rfl⟩
    go_wp2_with fail
    refine (utf8_any s _ (by omega) HT.out).mono ?_
    rintro _ w1 ⟨rfl, hb⟩
    rw [← hb1]
    have Hb1 := Lib.hid hb
    clear hb
    go_wp2_with fail
    refine (refutf8_any s _ (by omega)).mono ?_
    rintro _ w2 ⟨rfl, rfl⟩
    rw [← hb1]
    clear hb1
    go_wp2_with fail
    refine (pr_any s _ (by omega)).mono ?_
    rintro _ w2 ⟨rfl, hb⟩
    rw [← hb2]
    have Hb2 := Lib.hid (Hb1.out.trans (hb.mono Hb1.out.size))
    clear hb Hb1
    go_wp2_with fail
    refine (refpr_any s _ (by omega)).mono ?_
    rintro _ w3 ⟨rfl, hb⟩
    rw [← hb2]
    have Hb3 := Lib.hid (Hb2.out.trans (hb.mono Hb2.out.size))
    clear hb Hb2 hb2
    go_wp2_with fail
    refine (ia_any s _ (by omega)).mono ?_
    rintro _ w4 ⟨rfl, hb⟩
    rw [← hb3]
    have Hb4 := Lib.hid (Hb3.out.trans (hb.mono Hb3.out.size))
    clear hb Hb3
    go_wp2_with fail
    refine (refia_any s _ (by omega)).mono ?_
    rintro _ w5 ⟨rfl, rfl⟩
    rw [← hb3]
    clear hb3
    go_wp2_with fail
    refine (known_any _ (tabs_iter HT.out Hb4.out)).mono ?_
    rintro _ w7 ⟨rfl, hb⟩
    have Hb7 := Lib.hid (Hb4.out.trans (hb.mono Hb4.out.size))
    clear hb Hb4
    go_wp2_with fail
    go_ret
    exact ⟨rfl, Hb7.out⟩
end Go.Proofs.YtehdbceemdpbaaaDoor
