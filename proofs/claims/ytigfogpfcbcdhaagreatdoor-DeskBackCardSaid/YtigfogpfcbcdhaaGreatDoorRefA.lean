/- The walks of the reference's small functions on lines: a word's form, whether a number fits, a digit's number, bytes as text, a number as text. Conditions: lengths alone. -/
import Derived.Test.YtigfogpfcbcdhaaGreatDoorDeskQ
set_option linter.unusedVariables false
set_option linter.unusedSimpArgs false
namespace Go.Proofs.YtigfogpfcbcdhaaGreatDoor
open Go Go.RowKit
def wordsA : Array Value := #[.string ⟨#[107, 101, 121]⟩, .string ⟨#[112, 117, 116]⟩, .string ⟨#[115, 104, 111, 119]⟩, .string ⟨#[99, 101, 114, 116]⟩, .string ⟨#[99, 114, 108]⟩, .string ⟨#[116, 114, 117, 115, 116]⟩, .string ⟨#[115, 101, 114, 118, 101]⟩, .string ⟨#[114, 101, 113]⟩, .string ⟨#[97, 115, 107]⟩, .string ⟨#[99, 104, 101, 99, 107]⟩, .string ⟨#[115, 101, 97, 108]⟩, .string ⟨#[115, 116, 97, 109, 112]⟩, .string ⟨#[118, 101, 114, 105, 102, 121]⟩, .string ⟨#[102, 97, 105, 108]⟩, .string ⟨#[99, 117, 116]⟩, .string ⟨#[115, 116, 97, 114, 116]⟩]
def formsA : Array Value := #[.string ⟨#[107, 104, 104, 104]⟩, .string ⟨#[114, 104]⟩, .string ⟨#[114]⟩, .string ⟨#[114, 104, 104, 104, 110, 110, 107, 107, 110]⟩, .string ⟨#[114, 104, 110, 110, 107, 42]⟩, .string ⟨#[114]⟩, .string ⟨#[107, 114]⟩, .string ⟨#[114, 104, 110, 104, 110]⟩, .string ⟨#[114, 114, 110]⟩, .string ⟨#[114, 114, 110]⟩, .string ⟨#[114, 104, 107, 114]⟩, .string ⟨#[114, 114, 110]⟩, .string ⟨#[114, 110]⟩, .string ⟨#[]⟩, .string ⟨#[110]⟩, .string ⟨#[]⟩]
theorem wordsA_at (k : Nat) (h : k < 16) : wordsA[k]? = some (.string ⟨(Dk.table[k]'h).1.toArray⟩) := by
  match k, h with
  | 0, _ | 1, _ | 2, _ | 3, _ | 4, _ | 5, _ | 6, _ | 7, _ | 8, _ | 9, _ | 10, _ | 11, _ | 12, _ | 13, _ | 14, _ | 15, _ => rfl
  | n + 16, h => exact absurd h (by omega)
theorem formsA_at (k : Nat) (h : k < 16) : formsA[k]? = some (.string ⟨(Dk.table[k]'h).2.toArray⟩) := by
  match k, h with
  | 0, _ | 1, _ | 2, _ | 3, _ | 4, _ | 5, _ | 6, _ | 7, _ | 8, _ | 9, _ | 10, _ | 11, _ | 12, _ | 13, _ | 14, _ | 15, _ => rfl
  | n + 16, h => exact absurd h (by omega)
set_option maxRecDepth 100000 in
theorem words_any (w : World) : Calls Tryz.prog 44 #[] w fun e w' => e = .returned (.slice (some ⟨w.heap.size, 0, none⟩) 16 16) ∧ w.alloc (.cells wordsA 9) = w' := by
  go_enter Tryz.func44, Tryz.ntmps44
  go_wp2_with fail
  go_ret
  exact ⟨rfl, rfl⟩
set_option maxRecDepth 100000 in
theorem forms_any (w : World) : Calls Tryz.prog 45 #[] w fun e w' => e = .returned (.slice (some ⟨w.heap.size, 0, none⟩) 16 16) ∧ w.alloc (.cells formsA 9) = w' := by
  go_enter Tryz.func45, Tryz.ntmps45
  go_wp2_with fail
  go_ret
  exact ⟨rfl, rfl⟩
namespace Dk
theorem find_hit {l : Bs} : ∀ (t : List (Bs × Bs)) (k : Nat) (h : k < t.length), (∀ j (hj : j < k), (t[j]'(by omega)).1 ≠ l) → t[k].1 = l → (t.find? fun p => p.1 == l).map (·.2) = some t[k].2
  | p :: t, 0, h, _, he => by
    have he' : p.1 = l := he
    simp [List.find?, he']
  | p :: t, k + 1, h, hn, he => by
    have h0 := hn 0 (by omega)
    simp only [List.getElem_cons_zero] at h0
    rw [List.find?_cons_of_neg (by simpa using h0)]
    exact find_hit t k (by simpa using h) (fun j hj => by have := hn (j + 1) (by omega); simpa using this) he
theorem find_miss {l : Bs} {t : List (Bs × Bs)} (h : ∀ j (hj : j < t.length), t[j].1 ≠ l) : (t.find? fun p => p.1 == l).map (·.2) = none := by
  rw [Option.map_eq_none_iff, List.find?_eq_none]
  intro p hp
  obtain ⟨j, hj, rfl⟩ := List.getElem_of_mem hp
  simpa using h j hj
end Dk
set_option maxHeartbeats 2000000 in
set_option maxRecDepth 100000 in
theorem refform_any (s : ByteArray) (w : World) :
    Calls Tryz.prog 24 #[.string s] w fun e w' => e = .returned (formVal s.data.toList) ∧ Below w.heap.size w w' := by
  have Hyes : Hid (∀ (k : Nat) (h : k < 16), (∀ j (hj : j < k), (Dk.table[j]'(by have : Dk.table.length = 16 := rfl; omega)).1 ≠ s.data.toList) → (Dk.table[k]'h).1 = s.data.toList → formVal s.data.toList = .tuple #[.string ⟨(Dk.table[k]'h).2.toArray⟩, .bool true]) := fun k h hn he => formVal_some (Dk.find_hit Dk.table k h hn he)
  have Hno : Hid ((∀ j (hj : j < 16), (Dk.table[j]'hj).1 ≠ s.data.toList) → formVal s.data.toList = .tuple #[.string ⟨#[]⟩, .bool false]) := fun h => formVal_none (Dk.find_miss h)
  obtain ⟨FV, hFV⟩ : ∃ FV, FV = formVal s.data.toList := ⟨_, rfl⟩
  rw [← hFV] at Hyes Hno ⊢
  clear hFV
  go_enter Tryz.func24, Tryz.ntmps24
  go_wp2_with fail
  refine (words_any w).mono ?_
  rintro e w1 ⟨rfl, hw1⟩
  have HW : Hid (Blk w1 w.heap.size 9 wordsA ∧ Below w.heap.size w w1) := by
    show _ ∧ _; rw [← hw1]; exact ⟨Blk.new _ _ _, (Below.refl _ w).alloc (Nat.le_refl _) _⟩
  clear hw1
  go_wp2_with fail
  go_loop [5] (fun t5 => ∃ k : Nat, t5 = .int .i64 k ∧ k ≤ 16 ∧ Hid (∀ j (hj : j < k) (h : j < 16), (Dk.table[j]'h).1 ≠ s.data.toList)) (fun t5 => 16 - (intOf t5).toNat)
  case atStart => exact ⟨0, rfl, by omega, fun j hj => by omega⟩
  case round =>
    obtain ⟨k, rfl, hk, HI⟩ := hrel
    by_cases hp : k < 16
    · obtain ⟨X, hX⟩ : ∃ X : ByteArray, X = ⟨(Dk.table[k]'hp).1.toArray⟩ := ⟨_, rfl⟩
      have hcell : w1.cell? ⟨w.heap.size, k, none⟩ = some (.string X) := by rw [HW.out.1.cell, wordsA_at k hp, hX]
      by_cases he : (Dk.table[k]'hp).1 = s.data.toList
      · have hb : (X.toList == s.toList) = true := by rw [Lib.toList_data, Lib.toList_data, hX]; simpa using he
        have HF := Lib.hid (Hyes.out k hp (fun j hj => HI.out j hj (by omega)) he)
        clear he hX
        go_wp2_with fail
        refine (forms_any w1).mono ?_
        rintro e w2 ⟨rfl, hw2⟩
        have HB2 : Hid (Below w.heap.size w w2) := by
          show Below _ _ _; rw [← hw2]; exact HW.out.2.alloc HW.out.2.size _
        have hc2 : w2.cell? ⟨w1.heap.size, k, none⟩ = some (.string ⟨(Dk.table[k]'hp).2.toArray⟩) := by rw [← hw2, World.cell?_alloc_new, formsA_at k hp]
        obtain ⟨Y, hY⟩ : ∃ Y : ByteArray, Y = ⟨(Dk.table[k]'hp).2.toArray⟩ := ⟨_, rfl⟩
        rw [← hY] at hc2 HF
        clear hw2 hY
        go_wp2_with fail
        go_ret2
        exact ⟨by rw [HF.out]; rfl, HB2.out⟩
      · have hb : (X.toList == s.toList) = false := by rw [Lib.toList_data, Lib.toList_data, hX]; simpa using he
        have Hn : Hid (∀ j (hj : j < k + 1) (h : j < 16), (Dk.table[j]'h).1 ≠ s.data.toList) := fun j hj h => by
          rcases Nat.lt_or_ge j k with h1 | h1
          · exact HI.out j h1 h
          · obtain rfl : j = k := by omega
            exact he
        clear he hX
        go_wp2_with fail
        go_round
        case rel => exact ⟨k + 1, by go_num, by omega, Hn.out⟩
        case measure => simp [intOf]; omega
    · have HF := Lib.hid (Hno.out (fun j hj => HI.out j (by omega) hj))
      go_wp2_with fail
      go_ret2
      exact ⟨by rw [HF.out]; rfl, HW.out.2⟩
set_option maxHeartbeats 1000000 in
theorem fits_any (c : UInt8) (n : Int) (w : World) (hc : c = 110 ∨ c = 107 ∨ c = 114) (h0 : -9223372036854775808 ≤ n) (h1 : n ≤ 9223372036854775807) :
    Calls Tryz.prog 30 #[.int .u8 (c.toNat : Int), .int .i64 n] w fun e w' => e = .returned (.bool (Dk.okNum c n)) ∧ w = w' := by
  rcases hc with rfl | rfl | rfl
  · go_enter Tryz.func30, Tryz.ntmps30
    go_wp2_with fail
    go_ret
    exact ⟨rfl, rfl⟩
  · obtain ⟨b, hb⟩ : ∃ b, b = Dk.okNum 107 n := ⟨_, rfl⟩
    rw [← hb]
    have hb2 : b = decide (0 ≤ n ∧ n ≤ 9) := hb
    have hn : n < 0 ∨ (0 ≤ n ∧ n ≤ 9) ∨ (0 ≤ n ∧ 9 < n) := by omega
    rcases hn with hn | ⟨hn, hn'⟩ | ⟨hn, hn'⟩
    · obtain rfl : b = false := by rw [hb2]; simp; omega
      clear hb hb2
      have hd : decide (0 ≤ n) = false := decide_eq_false (by omega)
      go_enter Tryz.func30, Tryz.ntmps30
      go_wp2_with fail
      go_ret
      exact ⟨rfl, rfl⟩
    · obtain rfl : b = true := by rw [hb2]; simp; omega
      clear hb hb2
      have hd : decide (n ≤ 9) = true := decide_eq_true (by omega)
      go_enter Tryz.func30, Tryz.ntmps30
      go_wp2_with fail
      go_ret
      exact ⟨rfl, rfl⟩
    · obtain rfl : b = false := by rw [hb2]; simp; omega
      clear hb hb2
      have hd : decide (n ≤ 9) = false := decide_eq_false (by omega)
      go_enter Tryz.func30, Tryz.ntmps30
      go_wp2_with fail
      go_ret
      exact ⟨rfl, rfl⟩
  · obtain ⟨b, hb⟩ : ∃ b, b = Dk.okNum 114 n := ⟨_, rfl⟩
    rw [← hb]
    have hb2 : b = decide (0 ≤ n ∧ n ≤ 15) := hb
    have hn : n < 0 ∨ (0 ≤ n ∧ n ≤ 15) ∨ (0 ≤ n ∧ 15 < n) := by omega
    rcases hn with hn | ⟨hn, hn'⟩ | ⟨hn, hn'⟩
    · obtain rfl : b = false := by rw [hb2]; simp; omega
      clear hb hb2
      have hd : decide (0 ≤ n) = false := decide_eq_false (by omega)
      go_enter Tryz.func30, Tryz.ntmps30
      go_wp2_with fail
      go_ret
      exact ⟨rfl, rfl⟩
    · obtain rfl : b = true := by rw [hb2]; simp; omega
      clear hb hb2
      have hd : decide (n ≤ 15) = true := decide_eq_true (by omega)
      go_enter Tryz.func30, Tryz.ntmps30
      go_wp2_with fail
      go_ret
      exact ⟨rfl, rfl⟩
    · obtain rfl : b = false := by rw [hb2]; simp; omega
      clear hb hb2
      have hd : decide (n ≤ 15) = false := decide_eq_false (by omega)
      go_enter Tryz.func30, Tryz.ntmps30
      go_wp2_with fail
      go_ret
      exact ⟨rfl, rfl⟩
namespace Dk
theorem digR_lt (c : UInt8) : digR c ≤ 99 := by
  unfold digR
  cases h : dig? c with
  | none => simp
  | some x => have := dig_lt h; simp; omega
theorem digR_lo {c : UInt8} (h : 48 ≤ c.toNat ∧ c.toNat ≤ 57) : digR c = c.toNat - 48 := by unfold digR dig?; rw [if_pos h]; rfl
theorem digR_hi {c : UInt8} (h : 97 ≤ c.toNat ∧ c.toNat ≤ 102) : digR c = c.toNat - 87 := by unfold digR dig?; rw [if_neg (by omega), if_pos h]; rfl
theorem digR_no {c : UInt8} (h : ¬ (48 ≤ c.toNat ∧ c.toNat ≤ 57)) (h' : ¬ (97 ≤ c.toNat ∧ c.toNat ≤ 102)) : digR c = 99 := by unfold digR dig?; rw [if_neg h, if_neg h']; rfl
end Dk
set_option maxHeartbeats 1000000 in
theorem refdigit_any (c : UInt8) (w : World) :
    Calls Tryz.prog 46 #[.int .u8 (c.toNat : Int)] w fun e w' => e = .returned (.int .i64 (Dk.digR c : Nat)) ∧ w = w' := by
  have hc8 := c.toNat_lt
  obtain ⟨n, hn⟩ : ∃ n : Nat, n = c.toNat := ⟨_, rfl⟩
  have hc : n < 48 ∨ (48 ≤ n ∧ n ≤ 57) ∨ (57 < n ∧ n < 97) ∨ (97 ≤ n ∧ n ≤ 102) ∨ 102 < n := by omega
  rw [← hn]
  rcases hc with hc | ⟨hc, hc'⟩ | ⟨hc, hc'⟩ | ⟨hc, hc'⟩ | hc
  · have He := Lib.hid (Dk.digR_no (c := c) (by omega) (by omega))
    have hn8 : n < 256 := by omega
    clear hn
    go_enter Tryz.func46, Tryz.ntmps46
    go_wp2_with fail
    go_ret
    exact ⟨by rw [He.out]; rfl, rfl⟩
  · have He : Hid (((Dk.digR c : Nat) : Int) = (n : Int) - 48) := by show _ = _; rw [Dk.digR_lo (by omega)]; omega
    have hn8 : n < 256 := by omega
    clear hn
    go_enter Tryz.func46, Tryz.ntmps46
    go_wp2_with fail
    go_ret
    exact ⟨by rw [He.out]; rfl, rfl⟩
  · have He := Lib.hid (Dk.digR_no (c := c) (by omega) (by omega))
    have hn8 : n < 256 := by omega
    clear hn
    go_enter Tryz.func46, Tryz.ntmps46
    go_wp2_with fail
    go_ret
    exact ⟨by rw [He.out]; rfl, rfl⟩
  · have He : Hid (((Dk.digR c : Nat) : Int) = (n : Int) - 97 + 10) := by show _ = _; rw [Dk.digR_hi (by omega)]; omega
    have hn8 : n < 256 := by omega
    clear hn
    go_enter Tryz.func46, Tryz.ntmps46
    go_wp2_with fail
    go_ret
    exact ⟨by rw [He.out]; rfl, rfl⟩
  · have He := Lib.hid (Dk.digR_no (c := c) (by omega) (by omega))
    have hn8 : n < 256 := by omega
    clear hn
    go_enter Tryz.func46, Tryz.ntmps46
    go_wp2_with fail
    go_ret
    exact ⟨by rw [He.out]; rfl, rfl⟩
end Go.Proofs.YtigfogpfcbcdhaaGreatDoor
