/- The walks of the reference's bytes of a text and number of a text: of any text. Condition: the text is short. -/
import Derived.Test.YtigfogpfcbcdhaaGreatDoorRefD
import Derived.PlainAid
import Derived.RegionTactic
import Derived.Shelf.RegionOpen
set_option linter.unusedVariables false
set_option linter.unusedSimpArgs false
namespace Go.Proofs.YtigfogpfcbcdhaaGreatDoor
open Go Go.RowKit
namespace Dk
theorem nbR_take (l : Bs) (k : Nat) (h : k < l.length) (h2 : k < 25) (b : Bool) : (l.take (k + 1)).foldl (nstep b) 0 = nstep b ((l.take k).foldl (nstep b) 0) l[k] := by
  rw [List.take_succ_eq_append_getElem h, List.foldl_append]; rfl
end Dk
set_option maxHeartbeats 2000000 in
set_option maxRecDepth 100000 in
theorem numberOf_any (s : ByteArray) (w : World) (hs : s.size ≤ 60000) :
    Calls Tryz.prog 26 #[.string s] w fun e w' => e = .returned (.int .i64 (Dk.nbR s.data.toList)) ∧ w = w' := by
  obtain ⟨b, hb⟩ : ∃ b : Bool, b = (s.data.toList.head? == some 45) := ⟨_, rfl⟩
  have Hb := Lib.hid hb
  have hneg : ∀ h : 0 < s.size, (((s[0]'h).toNat : Int) == 45) = b := by
    intro h
    have hl : s.data.toList.length = s.size := rfl
    rw [hb, List.head?_eq_getElem?, List.getElem?_eq_getElem (show 0 < s.data.toList.length by omega)]
    have e : s.data.toList[0]'(by omega) = s[0]'(by omega) := rfl
    rw [e, Bool.eq_iff_iff]
    simp only [beq_iff_eq, Option.some.injEq]
    constructor
    · intro h; apply UInt8.toNat_inj.1; simpa using (show (s[0]'(by omega)).toNat = 45 by omega)
    · intro h; rw [h]; rfl
  clear hb
  go_enter Tryz.func26, Tryz.ntmps26
  go_wp2_with fail
  go_loop [3, 4] (fun t3 t4 => ∃ (k : Nat) (n : Int), t3 = .int .i64 n ∧ t4 = .int .i64 k ∧ k ≤ s.size ∧ k ≤ 25 ∧ -9223372036854775808 ≤ n ∧ n ≤ 9223372036854775807 ∧ Hid (n = (s.data.toList.take k).foldl (Dk.nstep b) 0)) (fun _ t4 => s.size - (intOf t4).toNat)
  case atStart => exact ⟨0, 0, rfl, rfl, by omega, by omega, by omega, by omega, by show _ = _; rfl⟩
  case round =>
    obtain ⟨k, n, rfl, rfl, hk, hk25, hn0, hn1, HI⟩ := hrel
    by_cases hp : k < s.size
    · by_cases h25 : k < 25
      · have hstep : (s.data.toList.take (k + 1)).foldl (Dk.nstep b) 0 = Dk.nstep b n s[k] := by
          rw [Dk.nbR_take s.data.toList k hp h25 b, ← HI.out]; rfl
        have hr := Dk.nstep_range b n s[k] ⟨hn0, hn1⟩
        have Hs := Lib.hid hstep
        have Hr := Lib.hid hr
        have h0s : 0 < s.size := by omega
        have hc8 : s[k].toNat < 256 := UInt8.toNat_lt _
        clear hstep hr
        by_cases hlo : (s[k].toNat : Int) < 48
        · have Hn : Hid (Dk.nstep b n s[k] = n) := by show _ = _; unfold Dk.nstep; rw [if_neg (by omega)]
          go_wp2_with fail
          go_round
          case rel => exact ⟨k + 1, n, rfl, by go_num, by omega, by omega, hn0, hn1, by show _ = _; rw [Hs.out, Hn.out]⟩
          case measure => simp [intOf]; omega
        · by_cases hhi : 57 < (s[k].toNat : Int)
          · have Hn : Hid (Dk.nstep b n s[k] = n) := by show _ = _; unfold Dk.nstep; rw [if_neg (by omega)]
            go_wp2_with fail
            go_round
            case rel => exact ⟨k + 1, n, rfl, by go_num, by omega, by omega, hn0, hn1, by show _ = _; rw [Hs.out, Hn.out]⟩
            case measure => simp [intOf]; omega
          · cases b with
            | false =>
              have Hn : Hid (Dk.nstep false n s[k] = wrap64 (wrap64 (n * 10) + ((s[k].toNat : Int) - 48))) := by show _ = _; unfold Dk.nstep; rw [if_pos (by omega)]; rfl
              rw [Hn.out] at Hs Hr
              go_wp2_with fail
              go_round
              case rel => exact ⟨k + 1, _, rfl, by go_num, by omega, by omega, Hr.out.1, Hr.out.2, Hs.out.symm⟩
              case measure => simp [intOf]; omega
            | true =>
              have Hn : Hid (Dk.nstep true n s[k] = wrap64 (wrap64 (n * 10) - ((s[k].toNat : Int) - 48))) := by show _ = _; unfold Dk.nstep; rw [if_pos (by omega)]; rfl
              rw [Hn.out] at Hs Hr
              go_wp2_with fail
              go_round
              case rel => exact ⟨k + 1, _, rfl, by go_num, by omega, by omega, Hr.out.1, Hr.out.2, Hs.out.symm⟩
              case measure => simp [intOf]; omega
      · obtain rfl : k = 25 := by omega
        have Hf : Hid (n = Dk.nbR s.data.toList) := by show _ = _; unfold Dk.nbR; rw [HI.out, Hb.out]
        go_wp2_with fail
        go_ret
        exact ⟨by rw [← Hf.out]; rfl, rfl⟩
    · obtain rfl : k = s.size := by omega
      have Hf : Hid (n = Dk.nbR s.data.toList) := by
        show _ = _
        unfold Dk.nbR
        have hl : s.data.toList.length = s.size := rfl
        rw [HI.out, Hb.out, List.take_of_length_le (by omega), List.take_of_length_le (by omega)]
      go_wp2_with fail
      go_ret
      exact ⟨by rw [← Hf.out]; rfl, rfl⟩
end Go.Proofs.YtigfogpfcbcdhaaGreatDoor
