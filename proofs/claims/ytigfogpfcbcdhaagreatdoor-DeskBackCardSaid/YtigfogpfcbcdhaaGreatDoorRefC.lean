/- The walk of the reference's Text of a number: its decimal numeral. -/
import Derived.Test.YtigfogpfcbcdhaaGreatDoorRefB
set_option linter.unusedVariables false
set_option linter.unusedSimpArgs false
namespace Go.Proofs.YtigfogpfcbcdhaaGreatDoor
open Go Go.RowKit
namespace Dk
open Go.Lib
def pre (a : Nat) : Bs := if a = 0 then [] else decDigits a
theorem pre_step {a : Nat} (h : 0 < a) : pre a = pre (a / 10) ++ [UInt8.ofNat (48 + a % 10)] := by
  unfold pre
  rw [if_neg (by omega), decDigits]
  split
  · rw [if_pos (by omega), Nat.mod_eq_of_lt ‹_›]; rfl
  · rw [if_neg (by omega)]
theorem pre_le {a : Nat} {S : Bs} {n : Nat} (h : pre a ++ S = decDigits n) (hn : n ≤ 9223372036854775808) : S.length ≤ 20 := by
  have h1 := congrArg List.length h
  rw [List.length_append, decDigits_length] at h1
  have := nDigits_le20 n (by omega)
  omega
end Dk
theorem one_reads (w : World) (c : UInt8) (n : Int) (h : n = (c.toNat : Int)) : ∃ B A cc, (Value.slice (some ⟨w.heap.size, 0, none⟩) 1 1) = .slice A [c].length cc ∧ Reads (w.alloc (.cells #[.int .u8 n] 5)) B 1 A [c].length (Lib.byteCells [c]) := by
  subst h
  exact ⟨w.heap.size + 1, _, _, rfl, rfl, fun _ => ⟨_, rfl, by simp, fun j u hu => by
    match j, hu with
    | 0, hu => simp [Lib.byteCells] at hu; subst hu; simp [Addr.add]⟩⟩
set_option maxHeartbeats 2000000 in
set_option maxRecDepth 100000 in
theorem numtext_pos (n : Int) (w : World) (h0 : 0 < n) (h1 : n ≤ 9223372036854775807) :
    Calls Tryz.prog 31 #[.int .i64 n] w fun e w' => e = .returned (.string ⟨(Lib.itoa n).toArray⟩) ∧ Below w.heap.size w w' := by
  obtain ⟨m, rfl⟩ : ∃ m : Nat, n = (m : Int) := ⟨n.toNat, by omega⟩
  have Hfin : Hid (Lib.itoa (m : Int) = Lib.decDigits m) := by show _ = _; unfold Lib.itoa; rw [if_neg (by omega)]; rfl
  have hm0 : ((m : Int) == 0) = false := beq_eq_false_iff_ne.2 (by omega)
  go_enter Tryz.func31, Tryz.ntmps31
  go_wp2_with fail
  go_loopw [3, 4] (fun t3 t4 wr => ∃ (S : ByteArray) (a : Nat), t3 = .string S ∧ t4 = .int .i64 a ∧ a ≤ m ∧ Hid (Dk.pre a ++ S.data.toList = Lib.decDigits m ∧ Below w.heap.size w wr)) (fun _ t4 _ => (intOf t4).toNat)
  case atStart => exact ⟨⟨#[]⟩, m, rfl, rfl, Nat.le_refl _, by unfold Dk.pre; rw [if_neg (by omega)]; simp, Below.refl _ _⟩
  case round =>
    obtain ⟨S, a, rfl, rfl, ham, HI⟩ := hrel
    have hS : S.size ≤ 20 := Dk.pre_le HI.out.1 (by omega)
    have hsz := HI.out.2.size
    by_cases ha : 0 < a
    · have ha0 : ((a : Int) == 0) = false := beq_eq_false_iff_ne.2 (by omega)
      have ha1 : ((a : Int) != 0) = true := by simp; omega
      have Hone := Lib.hid (one_reads wr (UInt8.ofNat (48 + a % 10)) (48 + (a : Int) % 10) (by rw [UInt8.toNat_ofNat']; omega))
      have Hn : Hid (Dk.pre (a / 10) ++ ((⟨[UInt8.ofNat (48 + a % 10)].toArray⟩ : ByteArray) ++ S).data.toList = Lib.decDigits m) := by
        show _ = _
        rw [← HI.out.1, Dk.pre_step ha, ByteArray.data_append]; simp
      have hd : (⟨[UInt8.ofNat (48 + a % 10)].toArray⟩ : ByteArray).size = 1 := rfl
      obtain ⟨X, hX⟩ : ∃ X : ByteArray, X = ⟨[UInt8.ofNat (48 + a % 10)].toArray⟩ := ⟨_, rfl⟩
      rw [← hX] at Hn hd
      have hx1 : X.size ≤ 1 := by omega
      have HX := Lib.hid hX
      clear hX hd
      go_wp2_with (refine wpList_tostr rfl (.tmp 22) 52 9 5 rfl Tryz.underlying52 Tryz.underlying5 Tryz.underlying9 (.slice (some ⟨wr.heap.size, 0, none⟩) 1 1) rfl [UInt8.ofNat (48 + a % 10)] Hone.out ?_; rw [← HX.out])
      go_roundw
      case rel => exact ⟨_, a / 10, rfl, by go_num, by omega, Hn.out, HI.out.2.alloc hsz _⟩
      case measure => simp [intOf]; omega
    · obtain rfl : a = 0 := by omega
      have Hf : Hid (S = ⟨(Lib.decDigits m).toArray⟩) := by
        have := HI.out.1
        show S = _
        rw [← this]
        unfold Dk.pre
        rw [if_pos rfl, List.nil_append, Lib.mk_data]
      go_wp2_with fail
      go_ret
      exact ⟨by rw [Hfin.out, ← Hf.out]; rfl, HI.out.2⟩
set_option maxHeartbeats 2000000 in
set_option maxRecDepth 100000 in
theorem numtext_neg (n : Int) (w : World) (h0 : n < 0) (h1 : -9223372036854775808 ≤ n) :
    Calls Tryz.prog 31 #[.int .i64 n] w fun e w' => e = .returned (.string ⟨(Lib.itoa n).toArray⟩) ∧ Below w.heap.size w w' := by
  have Hfin : Hid (∀ S : ByteArray, S.data.toList = Lib.decDigits n.natAbs → Ending.returned (.string ((⟨#[45]⟩ : ByteArray) ++ S)) = .returned (.string ⟨(Lib.itoa n).toArray⟩)) := by
    intro S hS
    congr 2
    apply ByteArray.ext
    apply Array.toList_inj.1
    unfold Lib.itoa
    rw [if_pos h0, ByteArray.data_append, Array.toList_append, hS]
    rfl
  have hm0 : (n == 0) = false := beq_eq_false_iff_ne.2 (by omega)
  obtain ⟨m, hm⟩ : ∃ m : Nat, m = n.natAbs := ⟨_, rfl⟩
  have hn : n = -(m : Int) := by omega
  rw [← hm] at Hfin
  have hm1 : m ≤ 9223372036854775808 := by omega
  have hm2 : 0 < m := by omega
  have Hn0 := Lib.hid hn
  clear hm hn
  go_enter Tryz.func31, Tryz.ntmps31
  go_wp2_with fail
  go_loopw [3, 4] (fun t3 t4 wr => ∃ (S : ByteArray) (k : Int) (a : Nat), t3 = .string S ∧ t4 = .int .i64 k ∧ k ≤ 0 ∧ -9223372036854775808 ≤ k ∧ Hid (k = -(a : Int) ∧ Dk.pre a ++ S.data.toList = Lib.decDigits m ∧ Below w.heap.size w wr)) (fun _ t4 _ => (intOf t4).natAbs)
  case atStart => exact ⟨⟨#[]⟩, n, m, rfl, rfl, by omega, h1, Hn0.out, by unfold Dk.pre; rw [if_neg (by omega)]; simp, Below.refl _ _⟩
  case round =>
    obtain ⟨S, k, a, rfl, rfl, hk0, hk1, HI⟩ := hrel
    have hS : S.size ≤ 20 := Dk.pre_le HI.out.2.1 (by omega)
    have hsz := HI.out.2.2.size
    by_cases ha : k < 0
    · have ha0 : (k == 0) = false := beq_eq_false_iff_ne.2 (by omega)
      have ha1 : (k != 0) = true := by simp; omega
      have hka := HI.out.1
      obtain ⟨d, hd⟩ : ∃ d : Nat, d = a % 10 := ⟨_, rfl⟩
      obtain ⟨q, hq⟩ : ∃ q : Nat, q = a / 10 := ⟨_, rfl⟩
      have ht : k.tmod 10 = -(d : Int) := by rw [hka, Int.neg_tmod, hd]; rfl
      have hv : k.tdiv 10 = -(q : Int) := by rw [hka, Int.neg_tdiv, hq]; rfl
      have hd9 : d ≤ 9 := by omega
      have hqk : -(q : Int) > k := by omega
      have hqb : (q : Int) ≤ 922337203685477580 := by omega
      have Hn : Hid (Dk.pre q ++ ((⟨[UInt8.ofNat (48 + d)].toArray⟩ : ByteArray) ++ S).data.toList = Lib.decDigits m) := by
        show _ = _
        rw [← HI.out.2.1, Dk.pre_step (a := a) (by omega), ByteArray.data_append, hd, hq]; simp
      have hX1 : (⟨[UInt8.ofNat (48 + d)].toArray⟩ : ByteArray).size = 1 := rfl
      obtain ⟨X, hX⟩ : ∃ X : ByteArray, X = ⟨[UInt8.ofNat (48 + d)].toArray⟩ := ⟨_, rfl⟩
      rw [← hX] at Hn hX1
      have hx1 : X.size ≤ 1 := by omega
      have HX := Lib.hid hX
      clear hX hX1 hka hd hq
      by_cases hd0 : d = 0
      · have ht0 : k.tmod 10 = 0 := by rw [ht, hd0]; rfl
        clear ht
        have Hone := Lib.hid (one_reads wr (UInt8.ofNat (48 + d)) (48) (by rw [UInt8.toNat_ofNat']; omega))
        go_wp2_with (refine wpList_tostr rfl (.tmp 22) 52 9 5 rfl Tryz.underlying52 Tryz.underlying5 Tryz.underlying9 (.slice (some ⟨wr.heap.size, 0, none⟩) 1 1) rfl [UInt8.ofNat (48 + d)] Hone.out ?_; rw [← HX.out])
        go_roundw
        case rel => exact ⟨_, -(q : Int), q, rfl, rfl, by omega, by omega, rfl, Hn.out, HI.out.2.2.alloc hsz _⟩
        case measure => simp [intOf]; omega
      · have hdp : 0 < d := by omega
        clear hd0
        have Hone := Lib.hid (one_reads wr (UInt8.ofNat (48 + d)) (48 + (d : Int)) (by rw [UInt8.toNat_ofNat']; omega))
        go_wp2_with (refine wpList_tostr rfl (.tmp 22) 52 9 5 rfl Tryz.underlying52 Tryz.underlying5 Tryz.underlying9 (.slice (some ⟨wr.heap.size, 0, none⟩) 1 1) rfl [UInt8.ofNat (48 + d)] Hone.out ?_; rw [← HX.out])
        go_roundw
        case rel => exact ⟨_, -(q : Int), q, rfl, rfl, by omega, by omega, rfl, Hn.out, HI.out.2.2.alloc hsz _⟩
        case measure => simp [intOf]; omega
    · obtain rfl : k = 0 := by omega
      obtain rfl : a = 0 := by have := HI.out.1; omega
      have Hf : Hid (S.data.toList = Lib.decDigits m) := by
        have := HI.out.2.1
        unfold Dk.pre at this
        rwa [if_pos rfl, List.nil_append] at this
      have Hf2 := Lib.hid (Hfin.out S Hf.out)
      go_wp2_with fail
      go_ret
      exact ⟨Hf2.out, HI.out.2.2⟩
/-- A number's text. -/
theorem numtext_any (n : Int) (w : World) (h0 : -9223372036854775808 ≤ n) (h1 : n ≤ 9223372036854775807) :
    Calls Tryz.prog 31 #[.int .i64 n] w fun e w' => e = .returned (.string ⟨(Lib.itoa n).toArray⟩) ∧ Below w.heap.size w w' := by
  rcases (show n < 0 ∨ n = 0 ∨ 0 < n by omega) with h | h | h
  · exact numtext_neg n w h h0
  · subst h
    have e : Lib.itoa 0 = [48] := by unfold Lib.itoa; rw [if_neg (by omega), show Int.toNat 0 = 0 from rfl, Lib.decDigits_one (by omega)]; rfl
    rw [e]
    go_enter Tryz.func31, Tryz.ntmps31
    go_wp2_with fail
    go_ret
    exact ⟨rfl, Below.refl _ _⟩
  · exact numtext_pos n w h h1
end Go.Proofs.YtigfogpfcbcdhaaGreatDoor
