/- The walks of the reference's Hex, of a number's text, and of the pieces between blanks. Conditions: lengths alone. -/
import Derived.Test.YtigfogpfcbcdhaaGreatDoorRefA
set_option linter.unusedVariables false
set_option linter.unusedSimpArgs false
namespace Go.Proofs.YtigfogpfcbcdhaaGreatDoor
open Go Go.RowKit
theorem app_start (base : Nat) (w : World) : AppB base w w (.slice none 0 0) (.slice none 0 0) [] := ⟨nil8 _ _, World.grownBy.refl _ _, fun g hg => by cases hg⟩
theorem own8_str {base : Nat} {w : World} {v : Value} {l : List UInt8} (h : w.ownsRow base 5 1 v l.length (Lib.byteCells l)) : ∃ B A c, v = .slice A l.length c ∧ Reads w B 1 A l.length (Lib.byteCells l) := by
  obtain ⟨A, c, hv, hr⟩ := reads_own h
  exact ⟨_, A, c, hv, hr⟩
set_option maxHeartbeats 2000000 in
set_option maxRecDepth 100000 in
theorem refhex_any (A : Option Addr) (c : Nat) (b : List UInt8) (w : World) (hr : Reads w w.heap.size 1 A b.length (Lib.byteCells b)) (hl : b.length ≤ 1000000) :
    Calls Tryz.prog 32 #[.slice A b.length c] w fun e w' => e = .returned (.string ⟨(Dk.hexT b).toArray⟩) ∧ Below w.heap.size w w' := by
  obtain ⟨i0, hi0, hz0, hz1, hz2⟩ := info_parts infoU8
  have HR := Lib.hid hr
  have Hfin : Hid (∀ X : ByteArray, (b = [] → X = ⟨#[45]⟩) → (b ≠ [] → X = ⟨(Dk.hexL b).toArray⟩) → Ending.returned (.string X) = .returned (.string ⟨(Dk.hexT b).toArray⟩)) := by
    intro X h1 h2
    unfold Dk.hexT
    by_cases h : b = []
    · rw [if_pos h, h1 h]
    · rw [if_neg h, h2 h]
  clear hr
  go_enter Tryz.func32, Tryz.ntmps32
  go_wp2_with fail
  go_loopw [4, 5] (fun t4 t5 wr => ∃ (k n : Nat) (v : Value), v = t4 ∧ t5 = .int .i64 k ∧ k ≤ b.length ∧ n = 2 * k ∧ Hid (AppB w.heap.size w wr (.slice none 0 0) v (Dk.hexL (b.take k)))) (fun _ t5 _ => b.length - (intOf t5).toNat)
  case atStart => exact ⟨0, 0, _, rfl, rfl, by omega, rfl, app_start _ _⟩
  case round =>
    obtain ⟨k, n, t4, rfl, rfl, hk, hn, HI⟩ := hrel
    have hsz := HI.out.grown.size
    have hnl : (Dk.hexL (b.take k)).length = n := by rw [Dk.hexL_length, List.length_take, hn]; omega
    by_cases hp : k < b.length
    · have HB := Lib.hid (HI.out.below (nil8 _ _) (Nat.le_refl _))
      obtain ⟨ad, rfl, hab, hcell⟩ := reads_at (HR.out.below HB.out) hp
      obtain ⟨x, hx8, hx⟩ : ∃ x : Nat, x < 256 ∧ x = b[k].toNat := ⟨_, UInt8.toNat_lt _, rfl⟩
      rw [← hx] at hcell
      have hq1 : x / 16 < 16 := by omega
      have hq2 : x % 16 < 16 := by omega
      have H1 : Hid (((⟨#[48, 49, 50, 51, 52, 53, 54, 55, 56, 57, 97, 98, 99, 100, 101, 102]⟩ : ByteArray)[x / 16]'hq1).toNat = (Dk.hexd (x / 16)).toNat) := by show _ = _; rw [hexd_at ⟨x / 16, hq1⟩]
      have H2 : Hid (((⟨#[48, 49, 50, 51, 52, 53, 54, 55, 56, 57, 97, 98, 99, 100, 101, 102]⟩ : ByteArray)[x % 16]'hq2).toNat = (Dk.hexd (x % 16)).toNat) := by show _ = _; rw [hexd_at ⟨x % 16, hq2⟩]
      have Hn : Hid (∀ v' w', AppB w.heap.size wr w' t4 v' (Dk.hexL (b.take k) ++ [Dk.hexd (x / 16)] ++ [Dk.hexd (x % 16)]) → AppB w.heap.size w w' (.slice none 0 0) v' (Dk.hexL (b.take (k + 1)))) := by
        intro v' w' h
        rw [Dk.hexL_take_succ b k hp, ← hx]
        have h2 := HI.out.trans h
        rwa [List.append_assoc] at h2
      have hl1 : (Dk.hexL (b.take k)).length ≤ 100000000 := by omega
      have hl2 : (Dk.hexL (b.take k) ++ [Dk.hexd (x / 16)]).length ≤ 100000000 := by rw [List.length_append, List.length_singleton]; omega
      clear hx hnl
      go_wp2_with (first | (refine wpList_push rfl (.tmp 12) (.tmp 20) 52 rfl w.heap.size i0 Tryz.underlying52 hi0 hz0 hz1 hz2 _ _ rfl HI.out.own _ (Dk.hexd (x / 16)) (congrArg Nat.cast H1.out) 1 rfl hl1 hsz ?_; intro v2 w2 A2; have hcell2 := ((A2.below HI.out.own hsz).cell (p := ad.add k) (by rw [block_of_add]; exact hab)).trans hcell; have hz2' := Nat.le_trans hsz A2.grown.size) | (refine wpList_push rfl (.tmp 22) (.tmp 30) 52 rfl w.heap.size i0 Tryz.underlying52 hi0 hz0 hz1 hz2 _ _ rfl A2.own _ (Dk.hexd (x % 16)) (congrArg Nat.cast H2.out) 1 rfl hl2 hz2' ?_; intro v3 w3 A3))
      go_roundw
      case rel => exact ⟨k + 1, _, v3, rfl, by go_num, by omega, rfl, Hn.out _ _ (A2.trans A3)⟩
      case measure => simp [intOf]; omega
    · obtain rfl : k = b.length := by omega
      have HA := HI.out
      rw [List.take_length] at HA
      have HA2 := Lib.hid HA
      have Hb := Lib.hid (HA.below (nil8 _ _) (Nat.le_refl _))
      clear HA hnl
      by_cases h0 : b = []
      · subst h0
        have HA3 := HA2.out
        obtain ⟨A4, c4, rfl, hr4⟩ := reads_own HA3.own
        clear HA3 hr4
        have Hf := Lib.hid (Hfin.out ⟨#[45]⟩ (fun _ => rfl) (fun h => absurd rfl h))
        go_wp2_with fail
        go_ret
        exact ⟨Hf.out, Hb.out⟩
      · have hne : (Dk.hexL b).length ≠ 0 := by rw [Dk.hexL_length]; have := List.length_pos_iff.2 h0; omega
        have Hf := Lib.hid (Hfin.out ⟨(Dk.hexL b).toArray⟩ (fun h => absurd h h0) (fun _ => rfl))
        obtain ⟨L, hL⟩ : ∃ L, L = Dk.hexL b := ⟨_, rfl⟩
        rw [← hL] at hne Hf HA2
        obtain ⟨A4, c4, rfl, hr4⟩ := reads_own HA2.out.own
        have H4 : (convert 52 9 (.slice A4 L.length c4)).run Tryz.prog wr = .ok (.string ⟨L.toArray⟩) wr := run_tostr (c := c4) Tryz.underlying52 Tryz.underlying5 Tryz.underlying9 hr4
        have hz0 : ((L.length : Int) == 0) = false := beq_eq_false_iff_ne.2 (by omega)
        clear hr4 hL h0 hne
        go_wp2_with fail
        go_ret
        exact ⟨Hf.out, Hb.out⟩
end Go.Proofs.YtigfogpfcbcdhaaGreatDoor
