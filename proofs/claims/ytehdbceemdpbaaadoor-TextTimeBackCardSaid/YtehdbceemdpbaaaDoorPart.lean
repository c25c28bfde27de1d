/- The walks of the digits' readers: part of the reference. -/
import Derived.Test.YtehdbceemdpbaaaDoorNumW
namespace Go.Proofs.YtehdbceemdpbaaaDoor
open Go Go.RowKit

/-- Digits as a number; -1: they are none. -/
def partOf (s : ByteArray) : Int := if s.data.toList.all Od.isDig then (Od.val s.data.toList : Int) else -1
theorem partOf_bad {s : ByteArray} {pos : Nat} (h : pos < s.size) (hb : s[pos].toNat < 48 ∨ 57 < s[pos].toNat) : partOf s = -1 := by
  unfold partOf
  rw [if_neg]
  intro ha
  have h1 := List.all_eq_true.1 ha (s.data.toList[pos]'h) (List.getElem_mem _)
  rw [at_list s pos h] at h1
  simp only [Od.isDig, decide_eq_true_eq] at h1; omega
theorem partOf_fin {s : ByteArray} {pos n : Nat} (hI : NInv s pos n) (h : ¬ pos < s.size) : partOf s = (n : Int) := by
  have e : s.data.toList.take pos = s.data.toList := List.take_of_length_le (by have : s.data.toList.length = s.size := rfl; omega)
  have hn := hI.hn
  have hd := hI.hd
  rw [e] at hn hd
  unfold partOf
  rw [if_pos hd, hn]
set_option maxHeartbeats 2000000 in
set_option maxRecDepth 100000 in
theorem part_any (s : ByteArray) (w : World) (hs : s.size ≤ 10) :
    Calls Tryd.prog 62 #[.string s] w fun e w' => e = .returned (.int .i64 (partOf s)) ∧ w = w' := by
  go_enter Tryd.func62, Tryd.ntmps62
  go_wp2_with fail
  go_loop [3, 4] (fun t3 t4 => ∃ pos n : Nat, t3 = .int .i64 n ∧ t4 = .int .i64 pos ∧ pos ≤ s.size ∧ Hid (NInv s pos n)) (fun _ t4 => s.size - (intOf t4).toNat)
  case atStart => exact ⟨0, 0, rfl, rfl, Nat.zero_le _, Nat.zero_le _, by simp [Od.val], by simp⟩
  case round =>
    obtain ⟨pos, n, rfl, rfl, hpos, HI⟩ := hrel
    have hn10 : n < 10 ^ pos := by
      have h1 := Od.val_lt _ HI.out.hd
      rw [← HI.out.hn, List.length_take] at h1
      exact Nat.lt_of_lt_of_le h1 (Nat.pow_le_pow_right (by decide) (Nat.min_le_left _ _))
    have hn18 : (n : Int) ≤ 10000000000 := by
      have h1 : 10 ^ pos ≤ 10 ^ 10 := Nat.pow_le_pow_right (by decide) (by omega)
      omega
    clear hn10
    by_cases hlt : pos < s.size
    · have hlt8 : s[pos].toNat < 256 := s[pos].toNat_lt
      by_cases hlo : s[pos].toNat < 48
      · have Hf := Lib.hid (partOf_bad hlt (.inl hlo))
        go_wp2_with fail
        refine (between_no _ _ _ _ (by omega)).mono ?_
        rintro _ w2 ⟨rfl, rfl⟩
        go_wp2_with fail
        go_ret
        exact ⟨by rw [Hf.out]; rfl, rfl⟩
      · by_cases hhi : 57 < s[pos].toNat
        · have Hf := Lib.hid (partOf_bad hlt (.inr hhi))
          go_wp2_with fail
          refine (between_no _ _ _ _ (by omega)).mono ?_
          rintro _ w2 ⟨rfl, rfl⟩
          go_wp2_with fail
          go_ret
          exact ⟨by rw [Hf.out]; rfl, rfl⟩
        · have Hnext := Lib.hid (HI.out.next hlt (by omega))
          go_wp2_with fail
          refine (between_yes _ _ _ _ (by omega)).mono ?_
          rintro _ w2 ⟨rfl, rfl⟩
          go_wp2_with fail
          go_roundw
          case rel => exact ⟨pos + 1, n * 10 + (s[pos].toNat - 48), by go_num, by go_num, by omega, Hnext.out⟩
          case measure => simp [intOf]; omega
    · have Hf := Lib.hid (partOf_fin HI.out hlt)
      go_wp2_with fail
      go_ret
      exact ⟨by rw [Hf.out]; rfl, rfl⟩
end Go.Proofs.YtehdbceemdpbaaaDoor
