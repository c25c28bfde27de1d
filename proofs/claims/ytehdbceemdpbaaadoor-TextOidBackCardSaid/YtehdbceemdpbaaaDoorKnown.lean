/- The walk of the fixed calls that each statement holds. -/
import Derived.Test.YtehdbceemdpbaaaDoorOidW2
import Derived.Test.YtehdbceemdpbaaaDoorTimeW2
import Derived.Test.YtehdbceemdpbaaaDoorFoldW
namespace Go.Proofs.YtehdbceemdpbaaaDoor
open Go Go.RowKit

theorem k_enc : Od.enc (⟨#[49, 46, 50, 46, 56, 52, 48, 46, 49, 49, 51, 53, 52, 57]⟩ : ByteArray).data.toList = some [42, 134, 72, 134, 247, 13] := by decide +kernel
theorem k_fold : Fd.fold ⟨#[32, 32, 65, 32, 32, 98, 32]⟩ = ⟨#[97, 32, 98]⟩ := by decide +kernel
theorem k_utf : Utf.ok ⟨#[255]⟩ = false := by decide +kernel
theorem k_short : Tm.short 1970 1 1 0 = [55, 48, 48, 49, 48, 49, 48, 48, 48, 48, 48, 48, 90] := by decide +kernel
theorem k_long : Tm.long 2000 2 29 0 500000 = [50, 48, 48, 48, 48, 50, 50, 57, 48, 48, 48, 48, 48, 48, 46, 53, 90] := by decide +kernel
theorem k_is0 : Cal.Is (((0 : Int) + 62167219200) / 86400) ((1970 : Nat) : Int) ((1 : Nat) : Int) ((1 : Nat) : Int) := by refine ⟨?_, ?_, ?_, ?_, ?_, ?_, ?_⟩ <;> decide +kernel
theorem k_is1 : Cal.Is (((951782400 : Int) + 62167219200) / 86400) ((2000 : Nat) : Int) ((2 : Nat) : Int) ((29 : Nat) : Int) := by refine ⟨?_, ?_, ?_, ?_, ?_, ?_, ?_⟩ <;> decide +kernel
set_option maxRecDepth 100000 in
set_option maxHeartbeats 1000000 in
theorem known_any (w : World) (hT : Lib.Utf8Tabs 0 1 w) :
    Calls Tryd.prog 17 #[] w fun e w' => e = .returned (.bool true) ∧ Below w.heap.size w w' := by
  have HT := Lib.hid hT
  clear hT
  go_enter Tryd.func17, Tryd.ntmps17
  go_wp2_with fail
  refine (oidBytes_any _ _ (by decide)).mono ?_
  rintro e w1 h
  unfold OidPost at h
  rw [k_enc] at h
  obtain ⟨v, rfl, hrow, hb⟩ := h
  have Hrow := Lib.hid hrow
  have Hb1 := Lib.hid hb
  clear hrow hb
  go_wp2_with fail
  refine (short_yes 0 1970 1 1 0 _ (by decide) (by decide) (Lib.hid k_is0) (Lib.hid (by decide))).mono ?_
  rintro e w2 ⟨rfl, hb2⟩
  rw [k_short]
  have Hb2 := Lib.hid (Hb1.out.trans (hb2.mono Hb1.out.size))
  have Hrow2 := Lib.hid (own_below Hrow.out hb2)
  clear hb2 Hrow Hb1
  go_wp2_with fail
  refine (long_yes 951782400 2000 2 29 0 500000 _ (by decide) (by decide) (by decide) (Lib.hid k_is1) (Lib.hid (by decide))).mono ?_
  rintro e w3 ⟨rfl, hb3⟩
  rw [k_long]
  have Hb3 := Lib.hid (Hb2.out.trans (hb3.mono Hb2.out.size))
  have Hrow3 := Lib.hid (own_below Hrow2.out hb3)
  clear hb3 Hrow2 Hb2
  obtain ⟨A, c, rfl, hr⟩ := reads_own Hrow3.out
  clear Hrow3
  have H6 : (convert 25 9 (.slice A 6 c)).run Tryd.prog w3 = .ok (.string ⟨#[42, 134, 72, 134, 247, 13]⟩) w3 := run_tostr (c := c) Tryd.underlying25 Tryd.underlying5 Tryd.underlying9 hr
  clear hr
  go_wp2_with fail
  clear H6
  refine (fold_any _ _ (by decide) (tabs_iter HT.out Hb3.out)).mono ?_
  rintro e w4 ⟨rfl, hb4⟩
  rw [k_fold]
  have Hb4 := Lib.hid (Hb3.out.trans (hb4.mono Hb3.out.size))
  clear hb4 Hb3
  go_wp2_with fail
  refine (utf8_any _ _ (by decide) (tabs_iter HT.out Hb4.out)).mono ?_
  rintro e w5 ⟨rfl, hb5⟩
  rw [k_utf]
  have Hb5 := Lib.hid (Hb4.out.trans (hb5.mono Hb4.out.size))
  clear hb5 Hb4
  go_wp2_with fail
  go_ret
  exact ⟨rfl, Hb5.out⟩
end Go.Proofs.YtehdbceemdpbaaaDoor
