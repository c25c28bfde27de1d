/- Characters of a text in plain Lean: the reference's reading byte by byte against the model's own decoding. No condition: definitions and lemmas alone. -/
import Derived.Lib.DecodeNEq
import Derived.PlainAid
namespace Go.Proofs.YtehdbceemdpbaaaDoor
namespace Utf
/-- The reference's character: its number and its width; (0, 0): broken. -/
def chrZ (n : Nat) (b0 b1 b2 b3 : Int) : Int × Int :=
  if b0 < 128 then (b0, 1)
  else if b0 < 192 ∨ 248 ≤ b0 then (0, 0)
  else if b0 < 224 then (if n < 2 ∨ b1 < 128 ∨ 191 < b1 ∨ (b0 - 192) * 64 + b1 - 128 < 128 then (0, 0) else ((b0 - 192) * 64 + b1 - 128, 2))
  else if b0 < 240 then (if n < 3 ∨ b1 < 128 ∨ 191 < b1 ∨ b2 < 128 ∨ 191 < b2 ∨ ((b0 - 224) * 64 + b1 - 128) * 64 + b2 - 128 < 2048 ∨ (55296 ≤ ((b0 - 224) * 64 + b1 - 128) * 64 + b2 - 128 ∧ ((b0 - 224) * 64 + b1 - 128) * 64 + b2 - 128 ≤ 57343) then (0, 0)
    else (((b0 - 224) * 64 + b1 - 128) * 64 + b2 - 128, 3))
  else (if n < 4 ∨ b1 < 128 ∨ 191 < b1 ∨ b2 < 128 ∨ 191 < b2 ∨ b3 < 128 ∨ 191 < b3 ∨ (((b0 - 240) * 64 + b1 - 128) * 64 + b2 - 128) * 64 + b3 - 128 < 65536 ∨ 1114111 < (((b0 - 240) * 64 + b1 - 128) * 64 + b2 - 128) * 64 + b3 - 128 then (0, 0)
    else ((((b0 - 240) * 64 + b1 - 128) * 64 + b2 - 128) * 64 + b3 - 128, 4))
def chr (s : ByteArray) : Int × Int := chrZ s.size (PlainAid.bt s 0) (PlainAid.bt s 1) (PlainAid.bt s 2) (PlainAid.bt s 3)
set_option maxHeartbeats 4000000 in
/-- It is the decoding: but for a broken byte. -/
theorem chrZ_decode (n b0 b1 b2 b3 : Nat) (h0 : b0 < 256) (h1 : b1 < 256) (h2 : b2 < 256) (h3 : b3 < 256) :
    chrZ n b0 b1 b2 b3 = if Lib.decodeN n b0 b1 b2 b3 = (65533, 1) then (0, 0) else (((Lib.decodeN n b0 b1 b2 b3).1 : Int), ((Lib.decodeN n b0 b1 b2 b3).2 : Int)) := by
  by_cases c1 : b0 < 128
  · have e : Lib.decodeN n b0 b1 b2 b3 = (b0, 1) := by simp [Lib.decodeN, c1]
    rw [e, if_neg (by intro h; injection h with h _; omega)]
    simp only [chrZ]; rw [if_pos (by omega)]; rfl
  · by_cases c2 : b0 < 192 ∨ 248 ≤ b0
    · have e : Lib.decodeN n b0 b1 b2 b3 = (65533, 1) := by
        simp only [Lib.decodeN, if_neg c1, show ¬ b0 / 32 = 6 by omega, show ¬ b0 / 16 = 14 by omega, show ¬ b0 / 8 = 30 by omega, false_and, if_false]
      rw [e, if_pos rfl]
      simp only [chrZ]; rw [if_neg (by omega), if_pos (by omega)]
    · have k1 : ¬ ((b0 : Int) < 128) := by omega
      have k2 : ¬ ((b0 : Int) < 192 ∨ (248 : Int) ≤ b0) := by omega
      by_cases c3 : b0 < 224
      · have d1 : b0 / 32 = 6 := by omega
        simp only [chrZ, Lib.decodeN, if_neg k1, if_neg k2, if_neg c1, if_pos (show (b0 : Int) < 224 by omega), d1, true_and, show ¬ b0 / 16 = 14 by omega, show ¬ b0 / 8 = 30 by omega, false_and, if_false]
        by_cases e1 : 1 < n ∧ b1 / 64 = 2
        · rw [if_pos e1]
          by_cases e2 : b0 % 32 * 64 + b1 % 64 ≥ 128
          · rw [if_pos e2, if_neg (by omega), if_neg (by intro h; injection h with _ h; omega)]
            simp only [Prod.mk.injEq]; omega
          · rw [if_neg e2, if_pos (by omega), if_pos rfl]
        · rw [if_neg e1, if_pos (by omega), if_pos rfl]
      · by_cases c4 : b0 < 240
        · have d1 : ¬ b0 / 32 = 6 := by omega
          have d2 : b0 / 16 = 14 := by omega
          simp only [chrZ, Lib.decodeN, if_neg k1, if_neg k2, if_neg c1, if_neg (show ¬ (b0 : Int) < 224 by omega), if_pos (show (b0 : Int) < 240 by omega), d1, d2, true_and, show ¬ b0 / 8 = 30 by omega, false_and, if_false]
          by_cases e1 : (1 < n ∧ b1 / 64 = 2) ∧ 2 < n ∧ b2 / 64 = 2
          · rw [if_pos e1]
            by_cases e2 : b0 % 16 * 4096 + b1 % 64 * 64 + b2 % 64 ≥ 2048 ∧ (b0 % 16 * 4096 + b1 % 64 * 64 + b2 % 64 < 55296 ∨ 57344 ≤ b0 % 16 * 4096 + b1 % 64 * 64 + b2 % 64 ∧ b0 % 16 * 4096 + b1 % 64 * 64 + b2 % 64 ≤ 1114111)
            · rw [if_pos e2, if_neg (by omega), if_neg (by intro h; injection h with _ h; omega)]
              simp only [Prod.mk.injEq]; omega
            · rw [if_neg e2, if_pos (by omega), if_pos rfl]
          · rw [if_neg e1, if_pos (by omega), if_pos rfl]
        · have d1 : ¬ b0 / 32 = 6 := by omega
          have d2 : ¬ b0 / 16 = 14 := by omega
          have d3 : b0 / 8 = 30 := by omega
          simp only [chrZ, Lib.decodeN, if_neg k1, if_neg k2, if_neg c1, if_neg (show ¬ (b0 : Int) < 224 by omega), if_neg (show ¬ (b0 : Int) < 240 by omega), d1, d2, d3, true_and, false_and, if_false]
          by_cases e1 : (1 < n ∧ b1 / 64 = 2) ∧ (2 < n ∧ b2 / 64 = 2) ∧ 3 < n ∧ b3 / 64 = 2
          · rw [if_pos e1]
            by_cases e2 : b0 % 8 * 262144 + b1 % 64 * 4096 + b2 % 64 * 64 + b3 % 64 ≥ 65536 ∧ (b0 % 8 * 262144 + b1 % 64 * 4096 + b2 % 64 * 64 + b3 % 64 < 55296 ∨ 57344 ≤ b0 % 8 * 262144 + b1 % 64 * 4096 + b2 % 64 * 64 + b3 % 64 ∧ b0 % 8 * 262144 + b1 % 64 * 4096 + b2 % 64 * 64 + b3 % 64 ≤ 1114111)
            · rw [if_pos e2, if_neg (by omega), if_neg (by intro h; injection h with _ h; omega)]
              simp only [Prod.mk.injEq]; omega
            · rw [if_neg e2, if_pos (by omega), if_pos rfl]
          · rw [if_neg e1, if_pos (by omega), if_pos rfl]
theorem bt_get (s : ByteArray) (i : Nat) : PlainAid.bt s i = ((s.get! i).toNat : Int) := by
  unfold PlainAid.bt
  split
  · rename_i h
    have : s.get! i = s[i] := by
      obtain ⟨d⟩ := s
      show d[i]! = d[i]
      exact getElem!_pos d i h
    rw [this]
  · rename_i h
    have : s.get! i = 0 := by
      obtain ⟨d⟩ := s
      show d[i]! = 0
      rw [getElem!_neg d i h]; rfl
    rw [this]; rfl
/-- The reference's character is the model's decoding at the beginning. -/
theorem chr_decode (s : ByteArray) : chr s = if Utf8.decode s 0 = (65533, 1) then (0, 0) else (((Utf8.decode s 0).1 : Int), ((Utf8.decode s 0).2 : Int)) := by
  unfold chr
  rw [bt_get, bt_get, bt_get, bt_get, chrZ_decode _ _ _ _ _ (UInt8.toNat_lt _) (UInt8.toNat_lt _) (UInt8.toNat_lt _) (UInt8.toNat_lt _), Lib.decode_at s 0]
  rfl
theorem get_extract (s : ByteArray) (i k : Nat) : (s.extract i s.size).get! k = s.get! (i + k) := by
  obtain ⟨⟨l⟩⟩ := s
  rw [ByteArray.extract_mk]
  show (((l.drop i).take (l.length - i)).toArray)[k]! = l.toArray[i + k]!
  rw [List.take_of_length_le (by rw [List.length_drop]; exact Nat.le_refl _)]
  simp
theorem decode_extract (s : ByteArray) (i : Nat) : Utf8.decode (s.extract i s.size) 0 = Utf8.decode s i := by
  rw [Lib.decode_at, Lib.decode_at s i]
  have hz : (s.extract i s.size).size = s.size - i := by simp
  simp only [get_extract, hz, Nat.zero_add, Nat.sub_zero, Nat.add_zero]
/-- No broken byte from a place on, by so much fuel. -/
def okFrom (s : ByteArray) : Nat → Nat → Bool
  | 0, _ => true
  | f + 1, pos => if pos < s.size then (if Utf8.decode s pos = (65533, 1) then false else okFrom s f (pos + (Utf8.decode s pos).2)) else true
def ok (s : ByteArray) : Bool := okFrom s s.size 0
theorem okFrom_end (s : ByteArray) (f pos : Nat) (h : ¬ pos < s.size) : okFrom s f pos = true := by cases f <;> simp [okFrom, h]
end Utf
end Go.Proofs.YtehdbceemdpbaaaDoor
