/- The walk of put: a number's digits of 128 behind some bytes. -/
import Derived.Test.YtehdbceemdpbaaaDoorDigW
import Derived.Test.YtehdbceemdpbaaaDoorOid
namespace Go.Proofs.YtehdbceemdpbaaaDoor
open Go Go.RowKit

theorem or_128 (x : Nat) (h : x < 256) : bits BinOp.or IntKind.u8 (x : Int) 128 = ((x % 128 + 128 : Nat) : Int) := by
  have key : ∀ k : Fin 256, bits BinOp.or IntKind.u8 ((k.val : Nat) : Int) 128 = ((k.val % 128 + 128 : Nat) : Int) := by decide +kernel
  exact key ⟨x, h⟩
theorem and_127 (x : Nat) (h : x < 256) : bits BinOp.and IntKind.u8 (x : Int) 127 = ((x % 128 : Nat) : Int) := by
  have key : ∀ k : Fin 256, bits BinOp.and IntKind.u8 ((k.val : Nat) : Int) 127 = ((k.val % 128 : Nat) : Int) := by decide +kernel
  exact key ⟨x, h⟩
theorem dg_byte (n k : Nat) : bits BinOp.or IntKind.u8 ((n : Int) / 2 ^ (7 * k) % 256) 128 = ((Od.dg n k).toNat : Int) := by
  have e : ((n : Int) / 2 ^ (7 * k) % 256) = ((n / 128 ^ k % 256 : Nat) : Int) := by
    rw [show ((2 : Int) ^ (7 * k)) = ((2 ^ (7 * k) : Nat) : Int) by simp, Od.pow_two]; rfl
  rw [e, or_128 _ (Nat.mod_lt _ (by omega))]
  unfold Od.dg
  rw [UInt8.toNat_ofNat', Nat.mod_mod_of_dvd _ (by decide : (128 : Nat) ∣ 256)]
  have := Nat.mod_lt (n / 128 ^ k) (show 0 < 128 by omega)
  omega
theorem low_byte (n : Nat) : bits BinOp.and IntKind.u8 ((n : Int) % 256) 127 = ((UInt8.ofNat (n % 128)).toNat : Int) := by
  rw [show ((n : Int) % 256) = ((n % 256 : Nat) : Int) from rfl, and_127 _ (Nat.mod_lt _ (by omega)), UInt8.toNat_ofNat', Nat.mod_mod_of_dvd _ (by decide : (128 : Nat) ∣ 256)]
  omega
theorem grow_step (n k : Nat) : n / 128 ^ (k + 1) / 128 = n / 128 ^ (k + 1 + 1) := by rw [Nat.div_div_eq_div_mul, ← Nat.pow_succ]
set_option maxHeartbeats 1000000 in
set_option maxRecDepth 100000 in
theorem put_any (n : Nat) (v : Value) (l0 : List UInt8) (base : Nat) (w : World) (hown : w.ownsRow base 5 1 v l0.length (Lib.byteCells l0)) (hbase : base ≤ w.heap.size) (hl0 : l0.length ≤ 1000000)
    (h0 : (n : Int) ≤ 18446744073709551615) :
    Calls Tryd.prog 49 #[v, .int .u64 n] w fun e w' => ∃ v', e = .returned v' ∧ AppB base w w' v v' (l0 ++ Od.b128 n) := by
  have HO := Lib.hid hown
  clear hown
  obtain ⟨i0, hi0, hz0, hz1, hz2⟩ := info_parts info_u8
  have H10 : Hid (n / 128 ^ (9 + 1) = 0) := by
    show _ = _
    rw [Nat.div_eq_zero_iff]; right; omega
  go_enter Tryd.func49, Tryd.ntmps49
  go_wp2_with fail
  go_loop [5, 6] (fun t5 t6 => ∃ k m : Nat, t5 = .int .i64 k ∧ t6 = .int .u64 m ∧ k ≤ 9 ∧ Hid (m = n / 128 ^ (k + 1) ∧ (k = 0 ∨ n / 128 ^ k ≠ 0))) (fun t5 _ => (20 - intOf t5).toNat)
  case atStart => exact ⟨0, n / 128, rfl, rfl, by omega, by simp, .inl rfl⟩
  case round =>
    obtain ⟨k, m, rfl, rfl, hk, HI⟩ := hrel
    by_cases hm : 0 < m
    · have hk9 : k < 9 := by
        rcases Nat.lt_or_ge k 9 with h | h
        · exact h
        · obtain rfl : k = 9 := by omega
          have := HI.out.1; rw [H10.out] at this; omega
      have Hn : Hid (m / 128 = n / 128 ^ (k + 1 + 1) ∧ (k + 1 = 0 ∨ n / 128 ^ (k + 1) ≠ 0)) := ⟨by rw [HI.out.1]; exact grow_step n k, .inr (by rw [← HI.out.1]; omega)⟩
      go_wp2_with fail
      exact ⟨⟨k + 1, m / 128, by go_num, rfl, by omega, Hn⟩, by simp [intOf]; omega⟩
    · have Hb := Lib.hid (Od.b128_dn (n := n) (K := k) (by omega) (by rw [← HI.out.1]; omega) HI.out.2)
      go_wp2_with fail
      go_loopw [0, 5] (fun t0 t5 wr => ∃ (j : Nat) (l : List UInt8) (v1 : Value), v1 = t0 ∧ t5 = .int .i64 j ∧ j ≤ 9 ∧ l.length ≤ 1000010 - j ∧ Hid (AppB base w wr v v1 l ∧ l0 ++ Od.b128 n = l ++ Od.dn n j ++ [UInt8.ofNat (n % 128)])) (fun _ t5 _ => (intOf t5).toNat)
      case atStart => exact ⟨k, l0, v, rfl, rfl, hk, by omega, ⟨HO.out, World.grownBy.refl _ _, fun g h => .inl h⟩, by rw [Hb.out]; simp⟩
      case round =>
        obtain ⟨j, l, t0, rfl, rfl, hj, hl, HJ⟩ := hrel
        by_cases hj0 : 0 < j
        · obtain ⟨i, rfl⟩ : ∃ i, j = i + 1 := ⟨j - 1, by omega⟩
          have hz := HJ.out.1.grown.size
          have Hnx : Hid (∀ v' w', AppB base wr w' t0 v' (l ++ [Od.dg n (i + 1)]) → AppB base w w' v v' (l ++ [Od.dg n (i + 1)]) ∧ l0 ++ Od.b128 n = (l ++ [Od.dg n (i + 1)]) ++ Od.dn n i ++ [UInt8.ofNat (n % 128)]) := fun v' w' h =>
            ⟨HJ.out.1.trans h, by rw [HJ.out.2]; simp [Od.dn]⟩
          go_wp2_with (refine wpList_push rfl (.tmp 19) (.tmp 26) 25 rfl base i0 Tryd.underlying25 hi0 hz0 hz1 hz2 t0 _ rfl HJ.out.1.own _ (Od.dg n (i + 1)) (dg_byte n (i + 1)) 1 rfl (by omega) (by omega) ?_; intro v2 w2 A2)
          go_roundw
          case rel => exact ⟨i, l ++ [Od.dg n (i + 1)], v2, rfl, by go_num, by omega, by rw [List.length_append, List.length_singleton]; omega, Hnx.out _ _ A2⟩
          case measure => first | (simp [intOf]; done) | (simp [intOf]; omega)
        · have hz := HJ.out.1.grown.size
          have Hnx : Hid (∀ v' w', AppB base wr w' t0 v' (l ++ [UInt8.ofNat (n % 128)]) → AppB base w w' v v' (l0 ++ Od.b128 n)) := fun v' w' h => by
            obtain rfl : j = 0 := by omega
            have h2 := HJ.out.1.trans h
            rw [HJ.out.2]; simpa [Od.dn] using h2
          go_wp2_with (refine wpList_push rfl (.tmp 28) (.tmp 32) 25 rfl base i0 Tryd.underlying25 hi0 hz0 hz1 hz2 t0 _ rfl HJ.out.1.own _ (UInt8.ofNat (n % 128)) (low_byte n) 1 rfl (by omega) (by omega) ?_; intro v2 w2 A2)
          go_ret
          exact ⟨v2, rfl, Hnx.out _ _ A2⟩
end Go.Proofs.YtehdbceemdpbaaaDoor
