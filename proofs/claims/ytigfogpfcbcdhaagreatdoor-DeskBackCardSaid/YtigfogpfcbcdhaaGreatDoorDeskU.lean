/- The walks of the desk's number, digit and unhex: whether a number may stand; a digit's number; the bytes of a text of digits. Condition of unhex: the text is short. -/
import Derived.Test.YtigfogpfcbcdhaaGreatDoorDeskH
import Derived.WalkLawsBesides
import Derived.WalkSpells
import Derived.Handy
import Derived.Lib.OthersKept
set_option linter.unusedVariables false
set_option linter.unusedSimpArgs false
namespace Go.Proofs.YtigfogpfcbcdhaaGreatDoor
open Go Go.RowKit
namespace Dk
def digV (c : Int) : Int := if 48 ≤ c ∧ c ≤ 57 then c - 48 else if 97 ≤ c ∧ c ≤ 102 then c - 87 else -1
theorem digV_le (c : Int) : -1 ≤ digV c ∧ digV c ≤ 15 := by unfold digV; split <;> (try split) <;> omega
theorem digV_none {c : UInt8} (h : dig? c = none) : digV (c.toNat : Int) = -1 := by
  unfold dig? at h
  unfold digV
  split at h
  · cases h
  · split at h
    · cases h
    · rw [if_neg (by omega), if_neg (by omega)]
theorem digV_some {c : UInt8} {n : Nat} (h : dig? c = some n) : digV (c.toNat : Int) = (n : Int) := by
  unfold dig? at h
  unfold digV
  split at h
  · injection h with h; rw [if_pos (by omega)]; omega
  · split at h
    · injection h with h; rw [if_neg (by omega), if_pos (by omega)]; omega
    · cases h
theorem digV_high {c : Int} (h : 128 ≤ c) : digV c = -1 := by unfold digV; rw [if_neg (by omega), if_neg (by omega)]
theorem dig_low {c : UInt8} {n : Nat} (h : dig? c = some n) : c.toNat < 128 := by
  unfold dig? at h
  split at h
  · omega
  · split at h
    · omega
    · cases h
/-- The bytes of digits, the last one begun. -/
def partL : Bs → Bs
  | [] => []
  | [a] => [UInt8.ofNat (16 * digR a)]
  | a :: b :: l => UInt8.ofNat (16 * digR a + digR b) :: partL l
theorem partL_length : ∀ l : Bs, (partL l).length = (l.length + 1) / 2
  | [] => rfl
  | [a] => by simp [partL]
  | a :: b :: l => by rw [partL, List.length_cons, partL_length l]; simp; omega
theorem partL_even : ∀ (n : Nat) (l : Bs) (c : UInt8), l.length = 2 * n → partL (l ++ [c]) = partL l ++ [UInt8.ofNat (16 * digR c)]
  | 0, l, c, h => by
    obtain rfl : l = [] := List.eq_nil_of_length_eq_zero (by omega)
    rfl
  | n + 1, l, c, h => by
    match l, h with
    | a :: b :: l, h => simp only [List.cons_append, partL]; rw [partL_even n l c (by simp at h; omega)]
    | [a], h => simp at h; omega
    | [], h => simp at h
theorem partL_odd : ∀ (n : Nat) (l : Bs) (a c : UInt8), l.length = 2 * n → partL (l ++ [a, c]) = partL l ++ [UInt8.ofNat (16 * digR a + digR c)]
  | 0, l, a, c, h => by
    obtain rfl : l = [] := List.eq_nil_of_length_eq_zero (by omega)
    rfl
  | n + 1, l, a, c, h => by
    match l, h with
    | x :: y :: l, h => simp only [List.cons_append, partL]; rw [partL_odd n l a c (by simp at h; omega)]
    | [x], h => simp at h; omega
    | [], h => simp at h
theorem unhexL_all : ∀ l r : Bs, unhexL l = some r → ∀ c ∈ l, dig? c ≠ none
  | [], _, _ => by simp
  | [a], r, h => by unfold unhexL at h; cases h
  | a :: b :: l, r, h => by
    unfold unhexL at h
    split at h
    · rename_i x y q hx hy hq
      intro c hc
      simp only [List.mem_cons] at hc
      rcases hc with rfl | rfl | hc
      · rw [hx]; simp
      · rw [hy]; simp
      · exact unhexL_all l q hq c hc
    · cases h
theorem unhexL_part : ∀ l : Bs, l.length % 2 = 0 → (∀ c ∈ l, dig? c ≠ none) → unhexL l = some (partL l)
  | [], _, _ => rfl
  | [a], h, _ => by simp at h
  | a :: b :: l, h, hd => by
    obtain ⟨x, hx⟩ := Option.ne_none_iff_exists'.1 (hd a (by simp))
    obtain ⟨y, hy⟩ := Option.ne_none_iff_exists'.1 (hd b (by simp))
    unfold unhexL
    rw [hx, hy, unhexL_part l (by simp at h; omega) (fun c hc => hd c (by simp [hc]))]
    simp [partL, digR, hx, hy]
theorem unhexL_odd : ∀ l : Bs, l.length % 2 = 1 → unhexL l = none
  | [], h => by simp at h
  | [a], _ => rfl
  | a :: b :: l, h => by
    unfold unhexL
    rw [unhexL_odd l (by simp at h; omega)]
    split <;> simp_all
end Dk
set_option maxHeartbeats 1000000 in
theorem digit_any (c : Int) (w : World) (h0 : 0 ≤ c) (h1 : c ≤ 2147483647) :
    Calls Tryz.prog 41 #[.int .i32 c] w fun e w' => e = .returned (.int .i64 (Dk.digV c)) ∧ w = w' := by
  have hc : c < 48 ∨ (48 ≤ c ∧ c ≤ 57) ∨ (57 < c ∧ c < 97) ∨ (97 ≤ c ∧ c ≤ 102) ∨ 102 < c := by omega
  have e : Dk.digV c = if 48 ≤ c ∧ c ≤ 57 then c - 48 else if 97 ≤ c ∧ c ≤ 102 then c - 87 else -1 := rfl
  rcases hc with hc | ⟨hc, hc'⟩ | ⟨hc, hc'⟩ | ⟨hc, hc'⟩ | hc
  · rw [if_neg (by omega), if_neg (by omega)] at e
    have He := Lib.hid e
    clear e
    go_enter Tryz.func41, Tryz.ntmps41
    go_wp2_with fail
    go_ret
    exact ⟨by rw [He.out]; rfl, rfl⟩
  · rw [if_pos ⟨hc, hc'⟩] at e
    have He := Lib.hid e
    clear e
    go_enter Tryz.func41, Tryz.ntmps41
    go_wp2_with fail
    go_ret
    exact ⟨by rw [He.out]; rfl, rfl⟩
  · rw [if_neg (by omega), if_neg (by omega)] at e
    have He := Lib.hid e
    clear e
    go_enter Tryz.func41, Tryz.ntmps41
    go_wp2_with fail
    go_ret
    exact ⟨by rw [He.out]; rfl, rfl⟩
  · rw [if_neg (by omega), if_pos ⟨hc, hc'⟩] at e
    have e2 : c - 87 = c - 97 + 10 := by omega
    rw [e2] at e
    have He := Lib.hid e
    clear e e2
    go_enter Tryz.func41, Tryz.ntmps41
    go_wp2_with fail
    go_ret
    exact ⟨by rw [He.out]; rfl, rfl⟩
  · rw [if_neg (by omega), if_neg (by omega)] at e
    have He := Lib.hid e
    clear e
    go_enter Tryz.func41, Tryz.ntmps41
    go_wp2_with fail
    go_ret
    exact ⟨by rw [He.out]; rfl, rfl⟩
set_option maxHeartbeats 1000000 in
theorem number_any (c : UInt8) (n : Int) (w : World) (h0 : -9223372036854775808 ≤ n) (h1 : n ≤ 9223372036854775807) :
    Calls Tryz.prog 28 #[.int .i32 (c.toNat : Int), .int .i64 n] w fun e w' => e = .returned (.bool (Dk.okNum c n)) ∧ w = w' := by
  by_cases hk : c = 107
  · subst hk
    obtain ⟨b, hb⟩ : ∃ b, b = Dk.okNum 107 n := ⟨_, rfl⟩
    rw [← hb]
    have hb2 : b = decide (0 ≤ n ∧ n ≤ 9) := hb
    have hn : n < 0 ∨ (0 ≤ n ∧ n ≤ 9) ∨ (0 ≤ n ∧ 9 < n) := by omega
    rcases hn with hn | ⟨hn, hn'⟩ | ⟨hn, hn'⟩
    · obtain rfl : b = false := by rw [hb2]; simp; omega
      clear hb hb2
      go_enter Tryz.func28, Tryz.ntmps28
      go_wp2_with fail
      go_ret
      exact ⟨rfl, rfl⟩
    · obtain rfl : b = true := by rw [hb2]; simp; omega
      clear hb hb2
      go_enter Tryz.func28, Tryz.ntmps28
      go_wp2_with fail
      go_ret
      exact ⟨rfl, rfl⟩
    · obtain rfl : b = false := by rw [hb2]; simp; omega
      clear hb hb2
      go_enter Tryz.func28, Tryz.ntmps28
      go_wp2_with fail
      go_ret
      exact ⟨by show Ending.returned (.bool (decide (n ≤ 9))) = _; rw [decide_eq_false (by omega)], rfl⟩
  · by_cases hr : c = 114
    · subst hr
      obtain ⟨b, hb⟩ : ∃ b, b = Dk.okNum 114 n := ⟨_, rfl⟩
      rw [← hb]
      have hb2 : b = decide (0 ≤ n ∧ n ≤ 15) := hb
      have hn : n < 0 ∨ (0 ≤ n ∧ n ≤ 15) ∨ (0 ≤ n ∧ 15 < n) := by omega
      rcases hn with hn | ⟨hn, hn'⟩ | ⟨hn, hn'⟩
      · obtain rfl : b = false := by rw [hb2]; simp; omega
        clear hb hb2
        go_enter Tryz.func28, Tryz.ntmps28
        go_wp2_with fail
        go_ret
        exact ⟨rfl, rfl⟩
      · obtain rfl : b = true := by rw [hb2]; simp; omega
        clear hb hb2
        go_enter Tryz.func28, Tryz.ntmps28
        go_wp2_with fail
        go_ret
        exact ⟨rfl, rfl⟩
      · obtain rfl : b = false := by rw [hb2]; simp; omega
        clear hb hb2
        go_enter Tryz.func28, Tryz.ntmps28
        go_wp2_with fail
        go_ret
        exact ⟨by show Ending.returned (.bool (decide (n ≤ 15))) = _; rw [decide_eq_false (by omega)], rfl⟩
    · have hb : Dk.okNum c n = true := by unfold Dk.okNum; rw [if_neg hk, if_neg hr]
      have h7 : ((c.toNat : Int) == 107) = false := by
        rw [beq_eq_false_iff_ne]; intro e; apply hk; apply UInt8.toNat_inj.1; simpa using (show c.toNat = 107 by omega)
      have h4 : ((c.toNat : Int) == 114) = false := by
        rw [beq_eq_false_iff_ne]; intro e; apply hr; apply UInt8.toNat_inj.1; simpa using (show c.toNat = 114 by omega)
      rw [hb]
      obtain ⟨x, hx⟩ : ∃ x : Int, x = (c.toNat : Int) := ⟨_, rfl⟩
      rw [← hx] at h7 h4 ⊢
      clear hx hb hk hr
      go_enter Tryz.func28, Tryz.ntmps28
      go_wp2_with fail
      go_ret
      exact ⟨rfl, rfl⟩
end Go.Proofs.YtigfogpfcbcdhaaGreatDoor
