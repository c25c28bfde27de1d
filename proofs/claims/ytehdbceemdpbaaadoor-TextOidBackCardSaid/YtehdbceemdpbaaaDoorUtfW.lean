/- The walks of characters: between, Char and Utf8 of the reference, Utf8 of the program. -/
import Derived.Test.YtehdbceemdpbaaaDoorChecked
import Derived.Test.YtehdbceemdpbaaaDoorWords
import Derived.Test.YtehdbceemdpbaaaDoorShelf
import Derived.Test.YtehdbceemdpbaaaDoorUtf
import Derived.WalkKit
import Derived.BigCall
import Derived.BigQuiet
import Derived.Outline
import Derived.Handy
import Derived.WalkLawsBesides
import Derived.WalkSpells
namespace Go.Proofs.YtehdbceemdpbaaaDoor
open Go Go.RowKit

def bw (n lo hi : Int) : Bool := decide (lo ≤ n ∧ n ≤ hi)
theorem between_any (n lo hi : Int) (w : World) :
    Calls Tryd.prog 46 #[.int .i64 n, .int .i64 lo, .int .i64 hi] w fun e w' => e = .returned (.bool (bw n lo hi)) ∧ w = w' := by
  by_cases h1 : lo ≤ n
  · by_cases h2 : n ≤ hi
    · have e : bw n lo hi = true := by simp [bw, h1, h2]
      rw [e]
      clear e
      go_enter Tryd.func46, Tryd.ntmps46
      go_wp2
      go_ret
      exact ⟨rfl, rfl⟩
    · have e : bw n lo hi = false := by simp [bw, h2]
      rw [e]
      clear e
      go_enter Tryd.func46, Tryd.ntmps46
      go_wp2
      go_ret
      exact ⟨rfl, rfl⟩
  · have e : bw n lo hi = false := by simp [bw, h1]
    rw [e]
    clear e
    go_enter Tryd.func46, Tryd.ntmps46
    go_wp2
    go_ret
    exact ⟨rfl, rfl⟩
theorem between_yes (n lo hi : Int) (w : World) (h : lo ≤ n ∧ n ≤ hi) :
    Calls Tryd.prog 46 #[.int .i64 n, .int .i64 lo, .int .i64 hi] w fun e w' => e = .returned (.bool true) ∧ w = w' := by
  have e : bw n lo hi = true := by simp [bw, h]
  rw [← e]; exact between_any n lo hi w
theorem between_no (n lo hi : Int) (w : World) (h : n < lo ∨ hi < n) :
    Calls Tryd.prog 46 #[.int .i64 n, .int .i64 lo, .int .i64 hi] w fun e w' => e = .returned (.bool false) ∧ w = w' := by
  have e : bw n lo hi = false := by simp [bw]; omega
  rw [← e]; exact between_any n lo hi w
set_option maxHeartbeats 4000000 in
set_option maxRecDepth 100000 in
theorem char_any (s : ByteArray) (w : World) (hs : 0 < s.size) (hs1 : s.size ≤ 1000000) :
    Calls Tryd.prog 58 #[.string s] w fun e w' => e = .returned (.tuple #[.int .i64 (Utf.chr s).1, .int .i64 (Utf.chr s).2]) ∧ w = w' := by
  have hb := PlainAid.get_bt s
  have l0 := PlainAid.bt_nonneg s 0; have u0 := PlainAid.bt_le s 0
  have l1 := PlainAid.bt_nonneg s 1; have u1 := PlainAid.bt_le s 1
  have l2 := PlainAid.bt_nonneg s 2; have u2 := PlainAid.bt_le s 2
  have l3 := PlainAid.bt_nonneg s 3; have u3 := PlainAid.bt_le s 3
  by_cases c1 : PlainAid.bt s 0 < 128
  · have e : Utf.chr s = (PlainAid.bt s 0, 1) := by unfold Utf.chr Utf.chrZ; rw [if_pos c1]
    rw [e]; clear e
    go_enter Tryd.func58, Tryd.ntmps58
    go_wp2_with fail
    go_ret2
    exact ⟨rfl, rfl⟩
  · by_cases c2 : PlainAid.bt s 0 < 192 ∨ 248 ≤ PlainAid.bt s 0
    · have e : Utf.chr s = (0, 0) := by unfold Utf.chr Utf.chrZ; rw [if_neg c1, if_pos c2]
      rw [e]; clear e
      go_enter Tryd.func58, Tryd.ntmps58
      go_wp2_with (go_at_call 46; first | (refine (between_yes _ _ _ _ (by omega)).mono ?_; rintro e w' ⟨rfl, rfl⟩) | (refine (between_no _ _ _ _ (by omega)).mono ?_; rintro e w' ⟨rfl, rfl⟩))
      go_ret2
      exact ⟨rfl, rfl⟩
    · have k1 : 192 ≤ PlainAid.bt s 0 := by omega
      have k2 : PlainAid.bt s 0 ≤ 247 := by omega
      by_cases c3 : PlainAid.bt s 0 < 224
      · skip
        by_cases z : s.size < 2
        · have z' : (s.size : Int) < 2 := by omega
          have e : Utf.chr s = (0, 0) := by unfold Utf.chr Utf.chrZ; rw [if_neg c1, if_neg c2, if_pos c3, if_pos (by omega)]
          rw [e]; clear e
          go_enter Tryd.func58, Tryd.ntmps58
          go_wp2_with (go_at_call 46; first | (refine (between_yes _ _ _ _ (by omega)).mono ?_; rintro e w' ⟨rfl, rfl⟩) | (refine (between_no _ _ _ _ (by omega)).mono ?_; rintro e w' ⟨rfl, rfl⟩))
          go_ret2
          exact ⟨rfl, rfl⟩
        · have z' : (2 : Int) ≤ s.size := by omega
          by_cases d1 : PlainAid.bt s 1 < 128 ∨ 191 < PlainAid.bt s 1
          · skip
            have e : Utf.chr s = (0, 0) := by unfold Utf.chr Utf.chrZ; rw [if_neg c1, if_neg c2, if_pos c3, if_pos (by omega)]
            rw [e]; clear e
            go_enter Tryd.func58, Tryd.ntmps58
            go_wp2_with (go_at_call 46; first | (refine (between_yes _ _ _ _ (by omega)).mono ?_; rintro e w' ⟨rfl, rfl⟩) | (refine (between_no _ _ _ _ (by omega)).mono ?_; rintro e w' ⟨rfl, rfl⟩))
            refine wp_loop_rounds 1 ?_
            rw [rounds_succ]
            go_wp2_with (go_at_call 46; first | (refine (between_yes _ _ _ _ (by omega)).mono ?_; rintro e w' ⟨rfl, rfl⟩) | (refine (between_no _ _ _ _ (by omega)).mono ?_; rintro e w' ⟨rfl, rfl⟩))
            go_ret2
            exact ⟨rfl, rfl⟩
          · have d1' : 128 ≤ PlainAid.bt s 1 ∧ PlainAid.bt s 1 ≤ 191 := by omega
            by_cases v1 : ((PlainAid.bt s 0 - 192) * 64 + PlainAid.bt s 1 - 128) < 128
            · skip
              have e : Utf.chr s = (0, 0) := by unfold Utf.chr Utf.chrZ; rw [if_neg c1, if_neg c2, if_pos c3, if_pos (by omega)]
              rw [e]; clear e
              go_enter Tryd.func58, Tryd.ntmps58
              go_wp2_with (go_at_call 46; first | (refine (between_yes _ _ _ _ (by omega)).mono ?_; rintro e w' ⟨rfl, rfl⟩) | (refine (between_no _ _ _ _ (by omega)).mono ?_; rintro e w' ⟨rfl, rfl⟩))
              refine wp_loop_rounds 2 ?_
              rw [rounds_succ]
              go_wp2_with (go_at_call 46; first | (refine (between_yes _ _ _ _ (by omega)).mono ?_; rintro e w' ⟨rfl, rfl⟩) | (refine (between_no _ _ _ _ (by omega)).mono ?_; rintro e w' ⟨rfl, rfl⟩))
              rw [rounds_succ]
              go_wp2_with (go_at_call 46; first | (refine (between_yes _ _ _ _ (by omega)).mono ?_; rintro e w' ⟨rfl, rfl⟩) | (refine (between_no _ _ _ _ (by omega)).mono ?_; rintro e w' ⟨rfl, rfl⟩))
              go_ret2
              exact ⟨rfl, rfl⟩
            · skip
              have e : Utf.chr s = (((PlainAid.bt s 0 - 192) * 64 + PlainAid.bt s 1 - 128), 2) := by unfold Utf.chr Utf.chrZ; rw [if_neg c1, if_neg c2, if_pos c3, if_neg (by omega)]
              rw [e]; clear e
              go_enter Tryd.func58, Tryd.ntmps58
              go_wp2_with (go_at_call 46; first | (refine (between_yes _ _ _ _ (by omega)).mono ?_; rintro e w' ⟨rfl, rfl⟩) | (refine (between_no _ _ _ _ (by omega)).mono ?_; rintro e w' ⟨rfl, rfl⟩))
              refine wp_loop_rounds 2 ?_
              rw [rounds_succ]
              go_wp2_with (go_at_call 46; first | (refine (between_yes _ _ _ _ (by omega)).mono ?_; rintro e w' ⟨rfl, rfl⟩) | (refine (between_no _ _ _ _ (by omega)).mono ?_; rintro e w' ⟨rfl, rfl⟩))
              rw [rounds_succ]
              go_wp2_with (go_at_call 46; first | (refine (between_yes _ _ _ _ (by omega)).mono ?_; rintro e w' ⟨rfl, rfl⟩) | (refine (between_no _ _ _ _ (by omega)).mono ?_; rintro e w' ⟨rfl, rfl⟩))
              go_ret2
              exact ⟨rfl, rfl⟩
      · by_cases c4 : PlainAid.bt s 0 < 240
        · skip
          by_cases z : s.size < 3
          · have z' : (s.size : Int) < 3 := by omega
            have e : Utf.chr s = (0, 0) := by unfold Utf.chr Utf.chrZ; rw [if_neg c1, if_neg c2, if_neg c3, if_pos c4, if_pos (by omega)]
            rw [e]; clear e
            go_enter Tryd.func58, Tryd.ntmps58
            go_wp2_with (go_at_call 46; first | (refine (between_yes _ _ _ _ (by omega)).mono ?_; rintro e w' ⟨rfl, rfl⟩) | (refine (between_no _ _ _ _ (by omega)).mono ?_; rintro e w' ⟨rfl, rfl⟩))
            go_ret2
            exact ⟨rfl, rfl⟩
          · have z' : (3 : Int) ≤ s.size := by omega
            by_cases d1 : PlainAid.bt s 1 < 128 ∨ 191 < PlainAid.bt s 1
            · skip
              have e : Utf.chr s = (0, 0) := by unfold Utf.chr Utf.chrZ; rw [if_neg c1, if_neg c2, if_neg c3, if_pos c4, if_pos (by omega)]
              rw [e]; clear e
              go_enter Tryd.func58, Tryd.ntmps58
              go_wp2_with (go_at_call 46; first | (refine (between_yes _ _ _ _ (by omega)).mono ?_; rintro e w' ⟨rfl, rfl⟩) | (refine (between_no _ _ _ _ (by omega)).mono ?_; rintro e w' ⟨rfl, rfl⟩))
              refine wp_loop_rounds 1 ?_
              rw [rounds_succ]
              go_wp2_with (go_at_call 46; first | (refine (between_yes _ _ _ _ (by omega)).mono ?_; rintro e w' ⟨rfl, rfl⟩) | (refine (between_no _ _ _ _ (by omega)).mono ?_; rintro e w' ⟨rfl, rfl⟩))
              go_ret2
              exact ⟨rfl, rfl⟩
            · have d1' : 128 ≤ PlainAid.bt s 1 ∧ PlainAid.bt s 1 ≤ 191 := by omega
              by_cases d2 : PlainAid.bt s 2 < 128 ∨ 191 < PlainAid.bt s 2
              · skip
                have e : Utf.chr s = (0, 0) := by unfold Utf.chr Utf.chrZ; rw [if_neg c1, if_neg c2, if_neg c3, if_pos c4, if_pos (by omega)]
                rw [e]; clear e
                go_enter Tryd.func58, Tryd.ntmps58
                go_wp2_with (go_at_call 46; first | (refine (between_yes _ _ _ _ (by omega)).mono ?_; rintro e w' ⟨rfl, rfl⟩) | (refine (between_no _ _ _ _ (by omega)).mono ?_; rintro e w' ⟨rfl, rfl⟩))
                refine wp_loop_rounds 2 ?_
                rw [rounds_succ]
                go_wp2_with (go_at_call 46; first | (refine (between_yes _ _ _ _ (by omega)).mono ?_; rintro e w' ⟨rfl, rfl⟩) | (refine (between_no _ _ _ _ (by omega)).mono ?_; rintro e w' ⟨rfl, rfl⟩))
                rw [rounds_succ]
                go_wp2_with (go_at_call 46; first | (refine (between_yes _ _ _ _ (by omega)).mono ?_; rintro e w' ⟨rfl, rfl⟩) | (refine (between_no _ _ _ _ (by omega)).mono ?_; rintro e w' ⟨rfl, rfl⟩))
                go_ret2
                exact ⟨rfl, rfl⟩
              · have d2' : 128 ≤ PlainAid.bt s 2 ∧ PlainAid.bt s 2 ≤ 191 := by omega
                by_cases v1 : (((PlainAid.bt s 0 - 224) * 64 + PlainAid.bt s 1 - 128) * 64 + PlainAid.bt s 2 - 128) < 2048
                · skip
                  have e : Utf.chr s = (0, 0) := by unfold Utf.chr Utf.chrZ; rw [if_neg c1, if_neg c2, if_neg c3, if_pos c4, if_pos (by omega)]
                  rw [e]; clear e
                  go_enter Tryd.func58, Tryd.ntmps58
                  go_wp2_with (go_at_call 46; first | (refine (between_yes _ _ _ _ (by omega)).mono ?_; rintro e w' ⟨rfl, rfl⟩) | (refine (between_no _ _ _ _ (by omega)).mono ?_; rintro e w' ⟨rfl, rfl⟩))
                  refine wp_loop_rounds 3 ?_
                  rw [rounds_succ]
                  go_wp2_with (go_at_call 46; first | (refine (between_yes _ _ _ _ (by omega)).mono ?_; rintro e w' ⟨rfl, rfl⟩) | (refine (between_no _ _ _ _ (by omega)).mono ?_; rintro e w' ⟨rfl, rfl⟩))
                  rw [rounds_succ]
                  go_wp2_with (go_at_call 46; first | (refine (between_yes _ _ _ _ (by omega)).mono ?_; rintro e w' ⟨rfl, rfl⟩) | (refine (between_no _ _ _ _ (by omega)).mono ?_; rintro e w' ⟨rfl, rfl⟩))
                  rw [rounds_succ]
                  go_wp2_with (go_at_call 46; first | (refine (between_yes _ _ _ _ (by omega)).mono ?_; rintro e w' ⟨rfl, rfl⟩) | (refine (between_no _ _ _ _ (by omega)).mono ?_; rintro e w' ⟨rfl, rfl⟩))
                  go_ret2
                  exact ⟨rfl, rfl⟩
                · skip
                  by_cases v2 : 55296 ≤ (((PlainAid.bt s 0 - 224) * 64 + PlainAid.bt s 1 - 128) * 64 + PlainAid.bt s 2 - 128) ∧ (((PlainAid.bt s 0 - 224) * 64 + PlainAid.bt s 1 - 128) * 64 + PlainAid.bt s 2 - 128) ≤ 57343
                  · skip
                    have e : Utf.chr s = (0, 0) := by unfold Utf.chr Utf.chrZ; rw [if_neg c1, if_neg c2, if_neg c3, if_pos c4, if_pos (by omega)]
                    rw [e]; clear e
                    go_enter Tryd.func58, Tryd.ntmps58
                    go_wp2_with (go_at_call 46; first | (refine (between_yes _ _ _ _ (by omega)).mono ?_; rintro e w' ⟨rfl, rfl⟩) | (refine (between_no _ _ _ _ (by omega)).mono ?_; rintro e w' ⟨rfl, rfl⟩))
                    refine wp_loop_rounds 3 ?_
                    rw [rounds_succ]
                    go_wp2_with (go_at_call 46; first | (refine (between_yes _ _ _ _ (by omega)).mono ?_; rintro e w' ⟨rfl, rfl⟩) | (refine (between_no _ _ _ _ (by omega)).mono ?_; rintro e w' ⟨rfl, rfl⟩))
                    rw [rounds_succ]
                    go_wp2_with (go_at_call 46; first | (refine (between_yes _ _ _ _ (by omega)).mono ?_; rintro e w' ⟨rfl, rfl⟩) | (refine (between_no _ _ _ _ (by omega)).mono ?_; rintro e w' ⟨rfl, rfl⟩))
                    rw [rounds_succ]
                    go_wp2_with (go_at_call 46; first | (refine (between_yes _ _ _ _ (by omega)).mono ?_; rintro e w' ⟨rfl, rfl⟩) | (refine (between_no _ _ _ _ (by omega)).mono ?_; rintro e w' ⟨rfl, rfl⟩))
                    go_ret2
                    exact ⟨rfl, rfl⟩
                  · skip
                    have e : Utf.chr s = ((((PlainAid.bt s 0 - 224) * 64 + PlainAid.bt s 1 - 128) * 64 + PlainAid.bt s 2 - 128), 3) := by unfold Utf.chr Utf.chrZ; rw [if_neg c1, if_neg c2, if_neg c3, if_pos c4, if_neg (by omega)]
                    rw [e]; clear e
                    go_enter Tryd.func58, Tryd.ntmps58
                    go_wp2_with (go_at_call 46; first | (refine (between_yes _ _ _ _ (by omega)).mono ?_; rintro e w' ⟨rfl, rfl⟩) | (refine (between_no _ _ _ _ (by omega)).mono ?_; rintro e w' ⟨rfl, rfl⟩))
                    refine wp_loop_rounds 3 ?_
                    rw [rounds_succ]
                    go_wp2_with (go_at_call 46; first | (refine (between_yes _ _ _ _ (by omega)).mono ?_; rintro e w' ⟨rfl, rfl⟩) | (refine (between_no _ _ _ _ (by omega)).mono ?_; rintro e w' ⟨rfl, rfl⟩))
                    rw [rounds_succ]
                    go_wp2_with (go_at_call 46; first | (refine (between_yes _ _ _ _ (by omega)).mono ?_; rintro e w' ⟨rfl, rfl⟩) | (refine (between_no _ _ _ _ (by omega)).mono ?_; rintro e w' ⟨rfl, rfl⟩))
                    rw [rounds_succ]
                    go_wp2_with (go_at_call 46; first | (refine (between_yes _ _ _ _ (by omega)).mono ?_; rintro e w' ⟨rfl, rfl⟩) | (refine (between_no _ _ _ _ (by omega)).mono ?_; rintro e w' ⟨rfl, rfl⟩))
                    go_ret2
                    exact ⟨rfl, rfl⟩
        · skip
          by_cases z : s.size < 4
          · have z' : (s.size : Int) < 4 := by omega
            have e : Utf.chr s = (0, 0) := by unfold Utf.chr Utf.chrZ; rw [if_neg c1, if_neg c2, if_neg c3, if_neg c4, if_pos (by omega)]
            rw [e]; clear e
            go_enter Tryd.func58, Tryd.ntmps58
            go_wp2_with (go_at_call 46; first | (refine (between_yes _ _ _ _ (by omega)).mono ?_; rintro e w' ⟨rfl, rfl⟩) | (refine (between_no _ _ _ _ (by omega)).mono ?_; rintro e w' ⟨rfl, rfl⟩))
            go_ret2
            exact ⟨rfl, rfl⟩
          · have z' : (4 : Int) ≤ s.size := by omega
            by_cases d1 : PlainAid.bt s 1 < 128 ∨ 191 < PlainAid.bt s 1
            · skip
              have e : Utf.chr s = (0, 0) := by unfold Utf.chr Utf.chrZ; rw [if_neg c1, if_neg c2, if_neg c3, if_neg c4, if_pos (by omega)]
              rw [e]; clear e
              go_enter Tryd.func58, Tryd.ntmps58
              go_wp2_with (go_at_call 46; first | (refine (between_yes _ _ _ _ (by omega)).mono ?_; rintro e w' ⟨rfl, rfl⟩) | (refine (between_no _ _ _ _ (by omega)).mono ?_; rintro e w' ⟨rfl, rfl⟩))
              refine wp_loop_rounds 1 ?_
              rw [rounds_succ]
              go_wp2_with (go_at_call 46; first | (refine (between_yes _ _ _ _ (by omega)).mono ?_; rintro e w' ⟨rfl, rfl⟩) | (refine (between_no _ _ _ _ (by omega)).mono ?_; rintro e w' ⟨rfl, rfl⟩))
              go_ret2
              exact ⟨rfl, rfl⟩
            · have d1' : 128 ≤ PlainAid.bt s 1 ∧ PlainAid.bt s 1 ≤ 191 := by omega
              by_cases d2 : PlainAid.bt s 2 < 128 ∨ 191 < PlainAid.bt s 2
              · skip
                have e : Utf.chr s = (0, 0) := by unfold Utf.chr Utf.chrZ; rw [if_neg c1, if_neg c2, if_neg c3, if_neg c4, if_pos (by omega)]
                rw [e]; clear e
                go_enter Tryd.func58, Tryd.ntmps58
                go_wp2_with (go_at_call 46; first | (refine (between_yes _ _ _ _ (by omega)).mono ?_; rintro e w' ⟨rfl, rfl⟩) | (refine (between_no _ _ _ _ (by omega)).mono ?_; rintro e w' ⟨rfl, rfl⟩))
                refine wp_loop_rounds 2 ?_
                rw [rounds_succ]
                go_wp2_with (go_at_call 46; first | (refine (between_yes _ _ _ _ (by omega)).mono ?_; rintro e w' ⟨rfl, rfl⟩) | (refine (between_no _ _ _ _ (by omega)).mono ?_; rintro e w' ⟨rfl, rfl⟩))
                rw [rounds_succ]
                go_wp2_with (go_at_call 46; first | (refine (between_yes _ _ _ _ (by omega)).mono ?_; rintro e w' ⟨rfl, rfl⟩) | (refine (between_no _ _ _ _ (by omega)).mono ?_; rintro e w' ⟨rfl, rfl⟩))
                go_ret2
                exact ⟨rfl, rfl⟩
              · have d2' : 128 ≤ PlainAid.bt s 2 ∧ PlainAid.bt s 2 ≤ 191 := by omega
                by_cases d3 : PlainAid.bt s 3 < 128 ∨ 191 < PlainAid.bt s 3
                · skip
                  have e : Utf.chr s = (0, 0) := by unfold Utf.chr Utf.chrZ; rw [if_neg c1, if_neg c2, if_neg c3, if_neg c4, if_pos (by omega)]
                  rw [e]; clear e
                  go_enter Tryd.func58, Tryd.ntmps58
                  go_wp2_with (go_at_call 46; first | (refine (between_yes _ _ _ _ (by omega)).mono ?_; rintro e w' ⟨rfl, rfl⟩) | (refine (between_no _ _ _ _ (by omega)).mono ?_; rintro e w' ⟨rfl, rfl⟩))
                  refine wp_loop_rounds 3 ?_
                  rw [rounds_succ]
                  go_wp2_with (go_at_call 46; first | (refine (between_yes _ _ _ _ (by omega)).mono ?_; rintro e w' ⟨rfl, rfl⟩) | (refine (between_no _ _ _ _ (by omega)).mono ?_; rintro e w' ⟨rfl, rfl⟩))
                  rw [rounds_succ]
                  go_wp2_with (go_at_call 46; first | (refine (between_yes _ _ _ _ (by omega)).mono ?_; rintro e w' ⟨rfl, rfl⟩) | (refine (between_no _ _ _ _ (by omega)).mono ?_; rintro e w' ⟨rfl, rfl⟩))
                  rw [rounds_succ]
                  go_wp2_with (go_at_call 46; first | (refine (between_yes _ _ _ _ (by omega)).mono ?_; rintro e w' ⟨rfl, rfl⟩) | (refine (between_no _ _ _ _ (by omega)).mono ?_; rintro e w' ⟨rfl, rfl⟩))
                  go_ret2
                  exact ⟨rfl, rfl⟩
                · have d3' : 128 ≤ PlainAid.bt s 3 ∧ PlainAid.bt s 3 ≤ 191 := by omega
                  by_cases v1 : ((((PlainAid.bt s 0 - 240) * 64 + PlainAid.bt s 1 - 128) * 64 + PlainAid.bt s 2 - 128) * 64 + PlainAid.bt s 3 - 128) < 65536
                  · skip
                    have e : Utf.chr s = (0, 0) := by unfold Utf.chr Utf.chrZ; rw [if_neg c1, if_neg c2, if_neg c3, if_neg c4, if_pos (by omega)]
                    rw [e]; clear e
                    go_enter Tryd.func58, Tryd.ntmps58
                    go_wp2_with (go_at_call 46; first | (refine (between_yes _ _ _ _ (by omega)).mono ?_; rintro e w' ⟨rfl, rfl⟩) | (refine (between_no _ _ _ _ (by omega)).mono ?_; rintro e w' ⟨rfl, rfl⟩))
                    refine wp_loop_rounds 4 ?_
                    rw [rounds_succ]
                    go_wp2_with (go_at_call 46; first | (refine (between_yes _ _ _ _ (by omega)).mono ?_; rintro e w' ⟨rfl, rfl⟩) | (refine (between_no _ _ _ _ (by omega)).mono ?_; rintro e w' ⟨rfl, rfl⟩))
                    rw [rounds_succ]
                    go_wp2_with (go_at_call 46; first | (refine (between_yes _ _ _ _ (by omega)).mono ?_; rintro e w' ⟨rfl, rfl⟩) | (refine (between_no _ _ _ _ (by omega)).mono ?_; rintro e w' ⟨rfl, rfl⟩))
                    rw [rounds_succ]
                    go_wp2_with (go_at_call 46; first | (refine (between_yes _ _ _ _ (by omega)).mono ?_; rintro e w' ⟨rfl, rfl⟩) | (refine (between_no _ _ _ _ (by omega)).mono ?_; rintro e w' ⟨rfl, rfl⟩))
                    rw [rounds_succ]
                    go_wp2_with (go_at_call 46; first | (refine (between_yes _ _ _ _ (by omega)).mono ?_; rintro e w' ⟨rfl, rfl⟩) | (refine (between_no _ _ _ _ (by omega)).mono ?_; rintro e w' ⟨rfl, rfl⟩))
                    go_ret2
                    exact ⟨rfl, rfl⟩
                  · skip
                    by_cases v2 : 1114111 < ((((PlainAid.bt s 0 - 240) * 64 + PlainAid.bt s 1 - 128) * 64 + PlainAid.bt s 2 - 128) * 64 + PlainAid.bt s 3 - 128)
                    · skip
                      have e : Utf.chr s = (0, 0) := by unfold Utf.chr Utf.chrZ; rw [if_neg c1, if_neg c2, if_neg c3, if_neg c4, if_pos (by omega)]
                      rw [e]; clear e
                      go_enter Tryd.func58, Tryd.ntmps58
                      go_wp2_with (go_at_call 46; first | (refine (between_yes _ _ _ _ (by omega)).mono ?_; rintro e w' ⟨rfl, rfl⟩) | (refine (between_no _ _ _ _ (by omega)).mono ?_; rintro e w' ⟨rfl, rfl⟩))
                      refine wp_loop_rounds 4 ?_
                      rw [rounds_succ]
                      go_wp2_with (go_at_call 46; first | (refine (between_yes _ _ _ _ (by omega)).mono ?_; rintro e w' ⟨rfl, rfl⟩) | (refine (between_no _ _ _ _ (by omega)).mono ?_; rintro e w' ⟨rfl, rfl⟩))
                      rw [rounds_succ]
                      go_wp2_with (go_at_call 46; first | (refine (between_yes _ _ _ _ (by omega)).mono ?_; rintro e w' ⟨rfl, rfl⟩) | (refine (between_no _ _ _ _ (by omega)).mono ?_; rintro e w' ⟨rfl, rfl⟩))
                      rw [rounds_succ]
                      go_wp2_with (go_at_call 46; first | (refine (between_yes _ _ _ _ (by omega)).mono ?_; rintro e w' ⟨rfl, rfl⟩) | (refine (between_no _ _ _ _ (by omega)).mono ?_; rintro e w' ⟨rfl, rfl⟩))
                      rw [rounds_succ]
                      go_wp2_with (go_at_call 46; first | (refine (between_yes _ _ _ _ (by omega)).mono ?_; rintro e w' ⟨rfl, rfl⟩) | (refine (between_no _ _ _ _ (by omega)).mono ?_; rintro e w' ⟨rfl, rfl⟩))
                      go_ret2
                      exact ⟨rfl, rfl⟩
                    · skip
                      have e : Utf.chr s = (((((PlainAid.bt s 0 - 240) * 64 + PlainAid.bt s 1 - 128) * 64 + PlainAid.bt s 2 - 128) * 64 + PlainAid.bt s 3 - 128), 4) := by unfold Utf.chr Utf.chrZ; rw [if_neg c1, if_neg c2, if_neg c3, if_neg c4, if_neg (by omega)]
                      rw [e]; clear e
                      go_enter Tryd.func58, Tryd.ntmps58
                      go_wp2_with (go_at_call 46; first | (refine (between_yes _ _ _ _ (by omega)).mono ?_; rintro e w' ⟨rfl, rfl⟩) | (refine (between_no _ _ _ _ (by omega)).mono ?_; rintro e w' ⟨rfl, rfl⟩))
                      refine wp_loop_rounds 4 ?_
                      rw [rounds_succ]
                      go_wp2_with (go_at_call 46; first | (refine (between_yes _ _ _ _ (by omega)).mono ?_; rintro e w' ⟨rfl, rfl⟩) | (refine (between_no _ _ _ _ (by omega)).mono ?_; rintro e w' ⟨rfl, rfl⟩))
                      rw [rounds_succ]
                      go_wp2_with (go_at_call 46; first | (refine (between_yes _ _ _ _ (by omega)).mono ?_; rintro e w' ⟨rfl, rfl⟩) | (refine (between_no _ _ _ _ (by omega)).mono ?_; rintro e w' ⟨rfl, rfl⟩))
                      rw [rounds_succ]
                      go_wp2_with (go_at_call 46; first | (refine (between_yes _ _ _ _ (by omega)).mono ?_; rintro e w' ⟨rfl, rfl⟩) | (refine (between_no _ _ _ _ (by omega)).mono ?_; rintro e w' ⟨rfl, rfl⟩))
                      rw [rounds_succ]
                      go_wp2_with (go_at_call 46; first | (refine (between_yes _ _ _ _ (by omega)).mono ?_; rintro e w' ⟨rfl, rfl⟩) | (refine (between_no _ _ _ _ (by omega)).mono ?_; rintro e w' ⟨rfl, rfl⟩))
                      go_ret2
                      exact ⟨rfl, rfl⟩

end Go.Proofs.YtehdbceemdpbaaaDoor
