/- The walk of the reference's Printable. -/
import Derived.Test.YtehdbceemdpbaaaDoorSets
import Derived.BigQuiet
namespace Go.Proofs.YtehdbceemdpbaaaDoor
open Go Go.RowKit

namespace St
def moreS : ByteArray := ⟨#[32, 39, 40, 41, 43, 44, 45, 46, 47, 58, 61, 63]⟩
def letC (n : Nat) : Bool := decide ((65 ≤ n ∧ n ≤ 90) ∨ (97 ≤ n ∧ n ≤ 122) ∨ (48 ≤ n ∧ n ≤ 57))
/-- Whether the byte is one of the first k of the others, or a letter or a digit. -/
def okN (n k : Nat) : Bool := letC n || (more.take k).contains n
theorem okN_all (c : UInt8) : okN c.toNat 12 = prC c := by
  unfold okN letC prC
  rw [show more.take 12 = more from rfl, Bool.eq_iff_iff]
  simp only [Bool.or_eq_true, decide_eq_true_eq, List.contains_iff_mem, or_assoc]
theorem more_at (k : Nat) (h : k < 12) : (moreS[k]'h).toNat = more[k]'h := by
  obtain rfl | rfl | rfl | rfl | rfl | rfl | rfl | rfl | rfl | rfl | rfl | rfl : k = 0 ∨ k = 1 ∨ k = 2 ∨ k = 3 ∨ k = 4 ∨ k = 5 ∨ k = 6 ∨ k = 7 ∨ k = 8 ∨ k = 9 ∨ k = 10 ∨ k = 11 := by omega
  all_goals rfl
theorem okN_succ (n k : Nat) (h : k < 12) : okN n (k + 1) = (okN n k || decide (n = (moreS[k]'h).toNat)) := by
  rw [more_at k h]
  unfold okN
  have hl : k < more.length := h
  rw [List.take_succ_eq_append_getElem hl, Bool.or_assoc]
  congr 1
  rw [Bool.eq_iff_iff]
  simp only [Bool.or_eq_true, decide_eq_true_eq, List.contains_iff_mem, List.mem_append, List.mem_singleton]
  exact Iff.rfl
theorem okN_zero (n : Nat) : okN n 0 = letC n := by unfold okN; simp
end St
set_option maxHeartbeats 8000000 in
set_option maxRecDepth 100000 in
theorem refpr_any (s : ByteArray) (w : World) (hs : s.size ≤ 1000000) :
    Calls Tryd.prog 33 #[.string s] w fun e w' => e = .returned (.bool (St.pr s)) ∧ Below w.heap.size w w' := by
  go_enter Tryd.func33, Tryd.ntmps33
  go_wp2_with fail
  obtain ⟨M, hM⟩ : ∃ M : ByteArray, M = ⟨#[32, 39, 40, 41, 43, 44, 45, 46, 47, 58, 61, 63]⟩ := ⟨_, rfl⟩
  have hMs : M.size = 12 := by rw [hM]; rfl
  have HM : Hid (M = St.moreS) := hM
  rw [← hM]
  clear hM
  go_loopw [4] (fun t4 wr => ∃ pos : Nat, t4 = .int .i64 pos ∧ pos ≤ s.size ∧ Below w.heap.size w wr ∧ Hid ((s.data.toList.take pos).all St.prC = true)) (fun t4 _ => s.size - (intOf t4).toNat)
  case atStart => exact ⟨0, rfl, Nat.zero_le _, Below.refl _ _, by simp [Hid]⟩
  case round =>
    obtain ⟨pos, rfl, hpos, hbw, HI⟩ := hrel
    by_cases hlt : pos < s.size
    · have hlt8 : s[pos].toNat < 256 := s[pos].toNat_lt
      have Hyes : Hid (St.prC s[pos] = true → (s.data.toList.take (pos + 1)).all St.prC = true) := fun h => St.all_next hlt HI.out h
      have Hno : Hid (St.prC s[pos] = false → St.pr s = false) := fun h => St.all_bad hlt h
      have Hall : Hid (St.okN s[pos].toNat 12 = St.prC s[pos]) := St.okN_all _
      have Hz : Hid (St.okN s[pos].toNat 0 = St.letC s[pos].toNat) := St.okN_zero _
      have hcls : (65 ≤ s[pos].toNat ∧ s[pos].toNat ≤ 90) ∨ (97 ≤ s[pos].toNat ∧ s[pos].toNat ≤ 122) ∨ (48 ≤ s[pos].toNat ∧ s[pos].toNat ≤ 57) ∨ St.letC s[pos].toNat = false := by
        cases hc : St.letC s[pos].toNat with
        | true => simp only [St.letC, decide_eq_true_eq] at hc; omega
        | false => simp
      have Hl : Hid ((65 ≤ s[pos].toNat ∧ s[pos].toNat ≤ 90) ∨ (97 ≤ s[pos].toNat ∧ s[pos].toNat ≤ 122) ∨ (48 ≤ s[pos].toNat ∧ s[pos].toNat ≤ 57) → St.letC s[pos].toNat = true) := fun h => by simp only [St.letC, decide_eq_true_eq]; exact h
      have Hln : Hid (St.letC s[pos].toNat = false → ¬ ((65 ≤ s[pos].toNat ∧ s[pos].toNat ≤ 90) ∨ (97 ≤ s[pos].toNat ∧ s[pos].toNat ≤ 122) ∨ (48 ≤ s[pos].toNat ∧ s[pos].toNat ≤ 57))) := fun h h2 => by rw [Hl.out h2] at h; cases h
      have inner : ∀ b : Bool, St.letC s[pos].toNat = b → St.okN s[pos].toNat 0 = b := fun b h => by rw [Hz.out]; exact h
      have Hin := Lib.hid inner
      clear inner
      rcases hcls with h | h | h | h
      · have Hb := Lib.hid (Hin.out true (Hl.out (by omega)))
        obtain ⟨h1, h2⟩ := h
        go_wp2_with (first | (refine (between_yes _ _ _ _ (by omega)).mono ?_; rintro _ w2 ⟨rfl, rfl⟩) | (refine (between_no _ _ _ _ (by omega)).mono ?_; rintro _ w2 ⟨rfl, rfl⟩))
        clear hpos
        go_loopw [6, 7] (fun t6 t7 wr2 => ∃ (k : Nat) (b : Bool), t6 = .bool b ∧ t7 = .int .i64 k ∧ k ≤ 12 ∧ Below w.heap.size w wr2 ∧ Hid (St.okN s[pos].toNat k = b)) (fun _ t7 _ => 12 - (intOf t7).toNat)
        case atStart => exact ⟨0, _, rfl, rfl, Nat.zero_le _, hbw, Hb.out⟩
        case round =>
          obtain ⟨k, b, rfl, rfl, hk, hbw2, HO⟩ := hrel
          by_cases hk12 : k < 12
          · have hkM : k < M.size := by omega
            have Hsucc : Hid (St.okN s[pos].toNat (k + 1) = (b || decide (s[pos].toNat = (M[k]'hkM).toNat))) := by
              show _ = _
              have h1 := St.okN_succ s[pos].toNat k hk12
              rw [HO.out] at h1
              rw [h1]
              have h2 := HM.out
              subst h2
              rfl
            have hM8 : (M[k]'hkM).toNat < 256 := (M[k]'hkM).toNat_lt
            have hszM : (k : Int) < (M.size : Int) := by omega
            cases b
            · by_cases he : s[pos].toNat = (M[k]'hkM).toNat
              · have he2 : ((s[pos].toNat : Int) == ((M[k]'hkM).toNat : Int)) = true := by rw [beq_iff_eq]; omega
                have Hs2 : Hid (St.okN s[pos].toNat (k + 1) = true) := by show _ = _; rw [Hsucc.out]; simp [he]
                clear he
                go_wp2_with fail
                go_quiet (fail)
                go_wp2_with fail
                go_roundw
                case rel => exact ⟨k + 1, true, rfl, by go_num, by omega, below_drewN hbw2 _, Hs2.out⟩
                case measure => simp [intOf]; omega
              · have he2 : ((s[pos].toNat : Int) == ((M[k]'hkM).toNat : Int)) = false := by rw [beq_eq_false_iff_ne]; omega
                have Hs2 : Hid (St.okN s[pos].toNat (k + 1) = false) := by show _ = _; rw [Hsucc.out]; simp [he]
                clear he
                go_wp2_with fail
                go_quiet (fail)
                go_wp2_with fail
                go_roundw
                case rel => exact ⟨k + 1, false, rfl, by go_num, by omega, below_drewN hbw2 _, Hs2.out⟩
                case measure => simp [intOf]; omega
            · have Hs2 : Hid (St.okN s[pos].toNat (k + 1) = true) := by show _ = _; rw [Hsucc.out]; simp
              go_wp2_with fail
              go_quiet (fail)
              go_wp2_with fail
              go_roundw
              case rel => exact ⟨k + 1, true, rfl, by go_num, by omega, below_drewN hbw2 _, Hs2.out⟩
              case measure => simp [intOf]; omega
          · obtain rfl : k = 12 := by omega
            have hoo := HO.out
            rw [Hall.out] at hoo
            cases b
            · have Hf := Lib.hid (Hno.out hoo)
              clear hoo
              go_wp2_with fail
              go_ret
              exact ⟨by rw [Hf.out]; rfl, hbw2⟩
            · have Hn := Lib.hid (Hyes.out hoo)
              clear hoo
              go_wp2_with fail
              go_roundw
              case rel => exact ⟨pos + 1, by go_num, by omega, hbw2, Hn.out⟩
              case measure => simp [intOf]; omega
      · have Hb := Lib.hid (Hin.out true (Hl.out (by omega)))
        obtain ⟨h1, h2⟩ := h
        go_wp2_with (first | (refine (between_yes _ _ _ _ (by omega)).mono ?_; rintro _ w2 ⟨rfl, rfl⟩) | (refine (between_no _ _ _ _ (by omega)).mono ?_; rintro _ w2 ⟨rfl, rfl⟩))
        clear hpos
        go_loopw [6, 7] (fun t6 t7 wr2 => ∃ (k : Nat) (b : Bool), t6 = .bool b ∧ t7 = .int .i64 k ∧ k ≤ 12 ∧ Below w.heap.size w wr2 ∧ Hid (St.okN s[pos].toNat k = b)) (fun _ t7 _ => 12 - (intOf t7).toNat)
        case atStart => exact ⟨0, _, rfl, rfl, Nat.zero_le _, hbw, Hb.out⟩
        case round =>
          obtain ⟨k, b, rfl, rfl, hk, hbw2, HO⟩ := hrel
          by_cases hk12 : k < 12
          · have hkM : k < M.size := by omega
            have Hsucc : Hid (St.okN s[pos].toNat (k + 1) = (b || decide (s[pos].toNat = (M[k]'hkM).toNat))) := by
              show _ = _
              have h1 := St.okN_succ s[pos].toNat k hk12
              rw [HO.out] at h1
              rw [h1]
              have h2 := HM.out
              subst h2
              rfl
            have hM8 : (M[k]'hkM).toNat < 256 := (M[k]'hkM).toNat_lt
            have hszM : (k : Int) < (M.size : Int) := by omega
            cases b
            · by_cases he : s[pos].toNat = (M[k]'hkM).toNat
              · have he2 : ((s[pos].toNat : Int) == ((M[k]'hkM).toNat : Int)) = true := by rw [beq_iff_eq]; omega
                have Hs2 : Hid (St.okN s[pos].toNat (k + 1) = true) := by show _ = _; rw [Hsucc.out]; simp [he]
                clear he
                go_wp2_with fail
                go_quiet (fail)
                go_wp2_with fail
                go_roundw
                case rel => exact ⟨k + 1, true, rfl, by go_num, by omega, below_drewN hbw2 _, Hs2.out⟩
                case measure => simp [intOf]; omega
              · have he2 : ((s[pos].toNat : Int) == ((M[k]'hkM).toNat : Int)) = false := by rw [beq_eq_false_iff_ne]; omega
                have Hs2 : Hid (St.okN s[pos].toNat (k + 1) = false) := by show _ = _; rw [Hsucc.out]; simp [he]
                clear he
                go_wp2_with fail
                go_quiet (fail)
                go_wp2_with fail
                go_roundw
                case rel => exact ⟨k + 1, false, rfl, by go_num, by omega, below_drewN hbw2 _, Hs2.out⟩
                case measure => simp [intOf]; omega
            · have Hs2 : Hid (St.okN s[pos].toNat (k + 1) = true) := by show _ = _; rw [Hsucc.out]; simp
              go_wp2_with fail
              go_quiet (fail)
              go_wp2_with fail
              go_roundw
              case rel => exact ⟨k + 1, true, rfl, by go_num, by omega, below_drewN hbw2 _, Hs2.out⟩
              case measure => simp [intOf]; omega
          · obtain rfl : k = 12 := by omega
            have hoo := HO.out
            rw [Hall.out] at hoo
            cases b
            · have Hf := Lib.hid (Hno.out hoo)
              clear hoo
              go_wp2_with fail
              go_ret
              exact ⟨by rw [Hf.out]; rfl, hbw2⟩
            · have Hn := Lib.hid (Hyes.out hoo)
              clear hoo
              go_wp2_with fail
              go_roundw
              case rel => exact ⟨pos + 1, by go_num, by omega, hbw2, Hn.out⟩
              case measure => simp [intOf]; omega
      · have Hb := Lib.hid (Hin.out true (Hl.out (by omega)))
        obtain ⟨h1, h2⟩ := h
        go_wp2_with (first | (refine (between_yes _ _ _ _ (by omega)).mono ?_; rintro _ w2 ⟨rfl, rfl⟩) | (refine (between_no _ _ _ _ (by omega)).mono ?_; rintro _ w2 ⟨rfl, rfl⟩))
        clear hpos
        go_loopw [6, 7] (fun t6 t7 wr2 => ∃ (k : Nat) (b : Bool), t6 = .bool b ∧ t7 = .int .i64 k ∧ k ≤ 12 ∧ Below w.heap.size w wr2 ∧ Hid (St.okN s[pos].toNat k = b)) (fun _ t7 _ => 12 - (intOf t7).toNat)
        case atStart => exact ⟨0, _, rfl, rfl, Nat.zero_le _, hbw, Hb.out⟩
        case round =>
          obtain ⟨k, b, rfl, rfl, hk, hbw2, HO⟩ := hrel
          by_cases hk12 : k < 12
          · have hkM : k < M.size := by omega
            have Hsucc : Hid (St.okN s[pos].toNat (k + 1) = (b || decide (s[pos].toNat = (M[k]'hkM).toNat))) := by
              show _ = _
              have h1 := St.okN_succ s[pos].toNat k hk12
              rw [HO.out] at h1
              rw [h1]
              have h2 := HM.out
              subst h2
              rfl
            have hM8 : (M[k]'hkM).toNat < 256 := (M[k]'hkM).toNat_lt
            have hszM : (k : Int) < (M.size : Int) := by omega
            cases b
            · by_cases he : s[pos].toNat = (M[k]'hkM).toNat
              · have he2 : ((s[pos].toNat : Int) == ((M[k]'hkM).toNat : Int)) = true := by rw [beq_iff_eq]; omega
                have Hs2 : Hid (St.okN s[pos].toNat (k + 1) = true) := by show _ = _; rw [Hsucc.out]; simp [he]
                clear he
                go_wp2_with fail
                go_quiet (fail)
                go_wp2_with fail
                go_roundw
                case rel => exact ⟨k + 1, true, rfl, by go_num, by omega, below_drewN hbw2 _, Hs2.out⟩
                case measure => simp [intOf]; omega
              · have he2 : ((s[pos].toNat : Int) == ((M[k]'hkM).toNat : Int)) = false := by rw [beq_eq_false_iff_ne]; omega
                have Hs2 : Hid (St.okN s[pos].toNat (k + 1) = false) := by show _ = _; rw [Hsucc.out]; simp [he]
                clear he
                go_wp2_with fail
                go_quiet (fail)
                go_wp2_with fail
                go_roundw
                case rel => exact ⟨k + 1, false, rfl, by go_num, by omega, below_drewN hbw2 _, Hs2.out⟩
                case measure => simp [intOf]; omega
            · have Hs2 : Hid (St.okN s[pos].toNat (k + 1) = true) := by show _ = _; rw [Hsucc.out]; simp
              go_wp2_with fail
              go_quiet (fail)
              go_wp2_with fail
              go_roundw
              case rel => exact ⟨k + 1, true, rfl, by go_num, by omega, below_drewN hbw2 _, Hs2.out⟩
              case measure => simp [intOf]; omega
          · obtain rfl : k = 12 := by omega
            have hoo := HO.out
            rw [Hall.out] at hoo
            cases b
            · have Hf := Lib.hid (Hno.out hoo)
              clear hoo
              go_wp2_with fail
              go_ret
              exact ⟨by rw [Hf.out]; rfl, hbw2⟩
            · have Hn := Lib.hid (Hyes.out hoo)
              clear hoo
              go_wp2_with fail
              go_roundw
              case rel => exact ⟨pos + 1, by go_num, by omega, hbw2, Hn.out⟩
              case measure => simp [intOf]; omega
      · have Hb := Lib.hid (Hin.out false h)
        have Hn2 := Lib.hid (Hln.out h)
        clear h
        go_wp2_with (first | (refine (between_yes _ _ _ _ (by have := Hn2.out; omega)).mono ?_; rintro _ w2 ⟨rfl, rfl⟩) | (refine (between_no _ _ _ _ (by have := Hn2.out; omega)).mono ?_; rintro _ w2 ⟨rfl, rfl⟩))
        clear hpos
        go_loopw [6, 7] (fun t6 t7 wr2 => ∃ (k : Nat) (b : Bool), t6 = .bool b ∧ t7 = .int .i64 k ∧ k ≤ 12 ∧ Below w.heap.size w wr2 ∧ Hid (St.okN s[pos].toNat k = b)) (fun _ t7 _ => 12 - (intOf t7).toNat)
        case atStart => exact ⟨0, _, rfl, rfl, Nat.zero_le _, hbw, Hb.out⟩
        case round =>
          obtain ⟨k, b, rfl, rfl, hk, hbw2, HO⟩ := hrel
          by_cases hk12 : k < 12
          · have hkM : k < M.size := by omega
            have Hsucc : Hid (St.okN s[pos].toNat (k + 1) = (b || decide (s[pos].toNat = (M[k]'hkM).toNat))) := by
              show _ = _
              have h1 := St.okN_succ s[pos].toNat k hk12
              rw [HO.out] at h1
              rw [h1]
              have h2 := HM.out
              subst h2
              rfl
            have hM8 : (M[k]'hkM).toNat < 256 := (M[k]'hkM).toNat_lt
            have hszM : (k : Int) < (M.size : Int) := by omega
            cases b
            · by_cases he : s[pos].toNat = (M[k]'hkM).toNat
              · have he2 : ((s[pos].toNat : Int) == ((M[k]'hkM).toNat : Int)) = true := by rw [beq_iff_eq]; omega
                have Hs2 : Hid (St.okN s[pos].toNat (k + 1) = true) := by show _ = _; rw [Hsucc.out]; simp [he]
                clear he
                go_wp2_with fail
                go_quiet (fail)
                go_wp2_with fail
                go_roundw
                case rel => exact ⟨k + 1, true, rfl, by go_num, by omega, below_drewN hbw2 _, Hs2.out⟩
                case measure => simp [intOf]; omega
              · have he2 : ((s[pos].toNat : Int) == ((M[k]'hkM).toNat : Int)) = false := by rw [beq_eq_false_iff_ne]; omega
                have Hs2 : Hid (St.okN s[pos].toNat (k + 1) = false) := by show _ = _; rw [Hsucc.out]; simp [he]
                clear he
                go_wp2_with fail
                go_quiet (fail)
                go_wp2_with fail
                go_roundw
                case rel => exact ⟨k + 1, false, rfl, by go_num, by omega, below_drewN hbw2 _, Hs2.out⟩
                case measure => simp [intOf]; omega
            · have Hs2 : Hid (St.okN s[pos].toNat (k + 1) = true) := by show _ = _; rw [Hsucc.out]; simp
              go_wp2_with fail
              go_quiet (fail)
              go_wp2_with fail
              go_roundw
              case rel => exact ⟨k + 1, true, rfl, by go_num, by omega, below_drewN hbw2 _, Hs2.out⟩
              case measure => simp [intOf]; omega
          · obtain rfl : k = 12 := by omega
            have hoo := HO.out
            rw [Hall.out] at hoo
            cases b
            · have Hf := Lib.hid (Hno.out hoo)
              clear hoo
              go_wp2_with fail
              go_ret
              exact ⟨by rw [Hf.out]; rfl, hbw2⟩
            · have Hn := Lib.hid (Hyes.out hoo)
              clear hoo
              go_wp2_with fail
              go_roundw
              case rel => exact ⟨pos + 1, by go_num, by omega, hbw2, Hn.out⟩
              case measure => simp [intOf]; omega
    · have Hf : Hid (St.pr s = true) := St.all_fin hlt HI.out
      go_wp2_with fail
      go_ret
      exact ⟨by rw [Hf.out]; rfl, hbw⟩
end Go.Proofs.YtehdbceemdpbaaaDoor
