/- The walk of the reference's number: digits as a number. -/
import Derived.Test.YtehdbceemdpbaaaDoorNumW
namespace Go.Proofs.YtehdbceemdpbaaaDoor
open Go Go.RowKit

namespace Od
theorem foldl_ge (l : List UInt8) (n : Nat) : n * 10 ^ l.length ≤ l.foldl (fun n c => n * 10 + (c.toNat - 48)) n := by
  induction l generalizing n with
  | nil => simp
  | cons c l ih =>
    refine Nat.le_trans ?_ (ih _)
    rw [List.length_cons, Nat.pow_succ, Nat.mul_comm (10 ^ l.length) 10, ← Nat.mul_assoc]
    exact Nat.mul_le_mul_right _ (show n * 10 ≤ n * 10 + (c.toNat - 48) by omega)
theorem numL_long {l : List UInt8} (h : 19 < l.length) : numL l = none := by
  unfold numL
  split
  · rfl
  · rename_i h0
    split
    · rename_i ha
      rw [if_neg]
      match l, h, h0, ha with
      | c :: r, h, h0, ha =>
        have hc : 48 ≤ c.toNat ∧ c.toNat ≤ 57 := by
          have := List.all_eq_true.1 ha c (by simp)
          simpa [isDig] using this
        have hc2 : c.toNat ≠ 48 := fun e => h0 (.inr ⟨by omega, by simp; exact UInt8.toNat_inj.1 (by rw [e]; rfl)⟩)
        have h1 := foldl_ge r (0 * 10 + (c.toNat - 48))
        have h2 : 1 * 10 ^ 19 ≤ (0 * 10 + (c.toNat - 48)) * 10 ^ r.length := Nat.mul_le_mul (by omega) (Nat.pow_le_pow_right (by decide) (by simp at h; omega))
        show ¬ val (c :: r) < top
        have h3 : val (c :: r) = r.foldl (fun n c => n * 10 + (c.toNat - 48)) (0 * 10 + (c.toNat - 48)) := rfl
        have h4 : top < 1 * 10 ^ 19 := by decide
        omega
    · rfl
end Od
/-- What the reference's number answers: the number and whether it is one; where it is none, some number. -/
def RefNum (s : ByteArray) (e : Ending) : Prop := (∃ n, Od.numL s.data.toList = some n ∧ e = .returned (.tuple #[.int .u64 n, .bool true])) ∨ (Od.numL s.data.toList = none ∧ ∃ v : Int, e = .returned (.tuple #[.int .u64 v, .bool false]))
theorem numL_of {s : ByteArray} {v : Value} (h : numVal s = v) (hv : v = .tuple #[.int .u64 0, .bool false]) : Od.numL s.data.toList = none := by
  unfold numVal at h
  split at h
  · subst h; simp at hv
  · assumption
theorem numL_of_some {s : ByteArray} {n : Nat} (h : numVal s = .tuple #[.int .u64 n, .bool true]) : Od.numL s.data.toList = some n := by
  unfold numVal at h
  split at h
  · rename_i m hm; rw [hm]; simp at h; rw [Option.some.injEq]; omega
  · simp at h
theorem refnum_bad {s : ByteArray} (h : numVal s = .tuple #[.int .u64 0, .bool false]) (v : Int) : RefNum s (.returned (.tuple #[.int .u64 v, .bool false])) := .inr ⟨numL_of h rfl, v, rfl⟩
theorem NInv.over {s : ByteArray} {pos n : Nat} (hI : NInv s pos n) (h : ¬ pos < s.size) (hb : 9223372036854775807 < n) : Od.numL s.data.toList = none := by
  refine Od.numL_big (k := pos) ?_
  have h1 := hI.hn
  have h2 : Od.top = 9223372036854775808 := rfl
  omega
set_option maxHeartbeats 4000000 in
set_option maxRecDepth 100000 in
theorem refnumber_loop (s : ByteArray) (w : World) (hs : s.size ≤ 19) (h0 : 0 < s.size) (hc : (s.size : Int) ≤ 1 ∨ (PlainAid.bt s 0 == 48) = false) :
    Calls Tryd.prog 67 #[.string s] w fun e w' => RefNum s e ∧ w = w' := by
  have Hfin : Hid (¬ (1 < s.size ∧ PlainAid.bt s 0 = 48)) := by
    rintro ⟨a, b⟩
    rcases hc with hc | hc
    · omega
    · rw [b] at hc; simp at hc
  have hb := PlainAid.get_bt s
  have hz0 : ((s.size : Int) == 0) = false := beq_eq_false_iff_ne.2 (by omega)
  have hz1 : (s.size : Int) ≤ 1 ∨ ¬ (s.size : Int) ≤ 1 := by omega
  rcases hz1 with hz1 | hz1
  all_goals rcases hc with hc | hc
  all_goals try (exfalso; omega)
  all_goals
    go_enter Tryd.func67, Tryd.ntmps67
    go_wp2_with fail
    clear hb
    go_loop [4, 5] (fun t4 t5 => ∃ pos n : Nat, t4 = .int .u64 n ∧ t5 = .int .i64 pos ∧ pos ≤ s.size ∧ Hid (NInv s pos n)) (fun _ t5 => s.size - (intOf t5).toNat)
    case atStart => exact ⟨0, 0, rfl, rfl, Nat.zero_le _, Nat.zero_le _, by simp [Od.val], by simp⟩
    case round =>
      obtain ⟨pos, n, rfl, rfl, hpos, HI⟩ := hrel
      have hn10 : n < 10 ^ pos := by
        have h1 := Od.val_lt _ HI.out.hd
        rw [← HI.out.hn, List.length_take] at h1
        exact Nat.lt_of_lt_of_le h1 (Nat.pow_le_pow_right (by decide) (Nat.min_le_left _ _))
      by_cases hlt : pos < s.size
      · have hn18 : (n : Int) < 1000000000000000000 := by
          have h1 : 10 ^ pos ≤ 10 ^ 18 := Nat.pow_le_pow_right (by decide) (by omega)
          omega
        have hlt8 : s[pos].toNat < 256 := s[pos].toNat_lt
        clear hn10
        by_cases hlo : s[pos].toNat < 48
        · have Hf := Lib.hid (NInv.bad hlt (.inl (by omega)))
          go_wp2_with fail
          refine (between_no _ _ _ _ (by omega)).mono ?_
          rintro _ w2 ⟨rfl, rfl⟩
          go_wp2_with fail
          go_ret2
          exact ⟨refnum_bad Hf.out 0, rfl⟩
        · by_cases hhi : 57 < s[pos].toNat
          · have Hf := Lib.hid (NInv.bad hlt (.inr (by omega)))
            go_wp2_with fail
            refine (between_no _ _ _ _ (by omega)).mono ?_
            rintro _ w2 ⟨rfl, rfl⟩
            go_wp2_with fail
            go_ret2
            exact ⟨refnum_bad Hf.out 0, rfl⟩
          · have Hnext := Lib.hid (HI.out.next hlt (by omega))
            go_wp2_with fail
            refine (between_yes _ _ _ _ (by omega)).mono ?_
            rintro _ w2 ⟨rfl, rfl⟩
            go_wp2_with fail
            go_roundw
            case rel => exact ⟨pos + 1, n * 10 + (s[pos].toNat - 48), by go_num, by go_num, by omega, Hnext.out⟩
            case measure => simp [intOf]; omega
      · have hn19 : (n : Int) < 10000000000000000000 := by
          have h1 : 10 ^ pos ≤ 10 ^ 19 := Nat.pow_le_pow_right (by decide) (by omega)
          omega
        clear hn10
        by_cases hover : 9223372036854775808 ≤ (n : Int)
        · have Hf := Lib.hid (HI.out.over hlt (by omega))
          have hov2 : ¬ (n : Int) < 9223372036854775808 := by omega
          go_wp2_with fail
          go_ret2
          exact ⟨.inr ⟨Hf.out, _, rfl⟩, rfl⟩
        · have Hf := Lib.hid (numL_of_some (HI.out.fin hlt (by omega) (by omega) Hfin.out))
          have hov2 : (n : Int) < 9223372036854775808 := by omega
          go_wp2_with fail
          go_ret2
          exact ⟨.inl ⟨n, Hf.out, rfl⟩, rfl⟩
theorem refnumber_any (s : ByteArray) (w : World) (hs : s.size ≤ 1000000) :
    Calls Tryd.prog 67 #[.string s] w fun e w' => RefNum s e ∧ w = w' := by
  by_cases h0 : s.size = 0
  · have Hf := Lib.hid (numVal_empty h0)
    go_enter Tryd.func67, Tryd.ntmps67
    go_wp2_with fail
    go_ret2
    exact ⟨refnum_bad Hf.out 0, rfl⟩
  · by_cases h19 : 19 < s.size
    · have Hf : Hid (Od.numL s.data.toList = none) := Od.numL_long h19
      have hz0 : ((s.size : Int) == 0) = false := beq_eq_false_iff_ne.2 (by omega)
      clear h0
      go_enter Tryd.func67, Tryd.ntmps67
      go_wp2_with fail
      go_ret2
      exact ⟨.inr ⟨Hf.out, 0, rfl⟩, rfl⟩
    · by_cases hc : (s.size : Int) ≤ 1 ∨ (PlainAid.bt s 0 == 48) = false
      · exact refnumber_loop s w (by omega) (by omega) hc
      · have h1 : 1 < s.size := by omega
        have h48 : PlainAid.bt s 0 = 48 := by
          have : ¬ (PlainAid.bt s 0 == 48) = false := fun h => hc (.inr h)
          simpa using this
        have Hf := Lib.hid (numVal_lead h1 h48)
        have hb := PlainAid.get_bt s
        have h48' : (PlainAid.bt s 0 == 48) = true := by simpa using h48
        have hz0 : ((s.size : Int) == 0) = false := beq_eq_false_iff_ne.2 (by omega)
        clear hc h48 h0
        go_enter Tryd.func67, Tryd.ntmps67
        go_wp2_with fail
        go_ret2
        exact ⟨refnum_bad Hf.out 0, rfl⟩
end Go.Proofs.YtehdbceemdpbaaaDoor
