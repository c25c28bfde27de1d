/- The walk of the program's reader of two digits. -/
import Derived.Test.YtehdbceemdpbaaaDoorPart
import Derived.BigQuiet
namespace Go.Proofs.YtehdbceemdpbaaaDoor
open Go Go.RowKit

/-- Two digits as a number, of two bytes; far below nought: they are none. -/
def twoN (a b : Nat) : Int := if 48 ≤ a ∧ a ≤ 57 ∧ 48 ≤ b ∧ b ≤ 57 then ((a - 48) * 10 + (b - 48) : Nat) else -1048576
set_option maxHeartbeats 2000000 in
set_option maxRecDepth 100000 in
theorem two_any (s : ByteArray) (k : Nat) (w : World) (hs : s.size ≤ 1000) (h0 : k < s.size) (h1 : k + 1 < s.size) :
    Calls Tryd.prog 60 #[.string s, .int .i64 k] w fun e w' => e = .returned (.int .i64 (twoN s[k].toNat s[k + 1].toNat)) ∧ ∃ n, w' = w.drewN n := by
  have ha := s[k].toNat_lt
  have hb := s[k + 1].toNat_lt
  have hk1 : ((k : Int) + 1) < (s.size : Int) := by omega
  by_cases a1 : s[k].toNat < 48
  · have Hf : Hid (twoN s[k].toNat s[k + 1].toNat = -1048576) := by show _ = _; unfold twoN; rw [if_neg (by omega)]
    go_enter Tryd.func60, Tryd.ntmps60
    go_wp2_with fail
    go_ret
    exact ⟨by rw [Hf.out]; rfl, 0, rfl⟩
  · by_cases a2 : 57 < s[k].toNat
    · have Hf : Hid (twoN s[k].toNat s[k + 1].toNat = -1048576) := by show _ = _; unfold twoN; rw [if_neg (by omega)]
      go_enter Tryd.func60, Tryd.ntmps60
      go_wp2_with fail
      go_ret
      exact ⟨by rw [Hf.out]; rfl, 0, rfl⟩
    · by_cases b1 : s[k + 1].toNat < 48
      · have Hf : Hid (twoN s[k].toNat s[k + 1].toNat = -1048576) := by show _ = _; unfold twoN; rw [if_neg (by omega)]
        go_enter Tryd.func60, Tryd.ntmps60
        go_wp2_with fail
        go_ret
        exact ⟨by rw [Hf.out]; rfl, 0, rfl⟩
      · by_cases b2 : 57 < s[k + 1].toNat
        · have Hf : Hid (twoN s[k].toNat s[k + 1].toNat = -1048576) := by show _ = _; unfold twoN; rw [if_neg (by omega)]
          go_enter Tryd.func60, Tryd.ntmps60
          go_wp2_with fail
          go_ret
          exact ⟨by rw [Hf.out]; rfl, 0, rfl⟩
        · have Hf : Hid (twoN s[k].toNat s[k + 1].toNat = (((s[k].toNat - 48) * 10 + (s[k + 1].toNat - 48) : Nat) : Int)) := by show _ = _; unfold twoN; rw [if_pos (by omega)]
          go_enter Tryd.func60, Tryd.ntmps60
          go_wp2_with fail
          go_quiet (fail)
          go_wp2_with fail
          go_ret
          have e : ((s[k].toNat : Int) - 48) * 10 + ((s[k + 1].toNat : Int) - 48) = (((s[k].toNat - 48) * 10 + (s[k + 1].toNat - 48) : Nat) : Int) := by omega
          exact ⟨by rw [Hf.out, ← e]; rfl, _, rfl⟩
end Go.Proofs.YtehdbceemdpbaaaDoor
