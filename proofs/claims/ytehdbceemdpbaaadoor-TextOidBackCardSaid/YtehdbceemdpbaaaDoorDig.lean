/- Decimal digits in plain Lean. No condition: lemmas alone. -/
import Derived.Lib.UnsafeStr
namespace Go.Proofs.YtehdbceemdpbaaaDoor
namespace Dig
/-- A digit's byte. -/
def dig (n : Nat) : UInt8 := UInt8.ofNat (48 + n % 10)
/-- A number's digits, at least so many, by so much fuel. -/
def dgsF : Nat → Nat → Nat → List UInt8
  | 0, _, _ => []
  | f + 1, n, k => if n = 0 ∧ k = 0 then [] else dgsF f (n / 10) (k - 1) ++ [dig n]
def dgs (n k : Nat) : List UInt8 := dgsF 20 n k
theorem dig_toNat (n : Nat) : (dig n).toNat = 48 + n % 10 := by
  unfold dig; rw [UInt8.toNat_ofNat']; omega
theorem dgsF_stop (f n k : Nat) (h : n = 0 ∧ k = 0) : dgsF f n k = [] := by cases f <;> simp [dgsF, h]
theorem dgsF_step (f n k : Nat) (h : ¬ (n = 0 ∧ k = 0)) : dgsF (f + 1) n k = dgsF f (n / 10) (k - 1) ++ [dig n] := by simp [dgsF, h]
theorem dgsF_length_le (f n k : Nat) : (dgsF f n k).length ≤ f := by
  induction f generalizing n k with
  | zero => simp [dgsF]
  | succ f ih =>
    by_cases h : n = 0 ∧ k = 0
    · rw [dgsF_stop _ _ _ h]; simp
    · rw [dgsF_step _ _ _ h]; have := ih (n / 10) (k - 1); simp; omega
theorem dgs_length_le (n k : Nat) : (dgs n k).length ≤ 20 := dgsF_length_le 20 n k
/-- What is left to do after j digits, and that the fuel suffices. -/
theorem pow_step {n f : Nat} (h : n < 10 ^ (f + 1)) : n / 10 < 10 ^ f := by
  rw [Nat.pow_succ] at h; omega
theorem fuel_pos {n k f : Nat} (h : n < 10 ^ f) (hk : k ≤ f) (hh : ¬ (n = 0 ∧ k = 0)) : 0 < f := by
  rcases Nat.eq_zero_or_pos f with h0 | h0
  · subst h0; simp at h; omega
  · exact h0
theorem dgsF_all (f n k : Nat) (h : n < 10 ^ f) (hk : k ≤ f) : k ≤ (dgsF f n k).length ∧ ∀ c ∈ dgsF f n k, 48 ≤ c.toNat ∧ c.toNat ≤ 57 := by
  induction f generalizing n k with
  | zero => simp [dgsF]; omega
  | succ f ih =>
    by_cases hh : n = 0 ∧ k = 0
    · rw [dgsF_stop _ _ _ hh]; simp [hh]
    · rw [dgsF_step _ _ _ hh]
      obtain ⟨a, b⟩ := ih (n / 10) (k - 1) (pow_step h) (by omega)
      refine ⟨by simp; omega, ?_⟩
      intro c hc
      rw [List.mem_append] at hc
      rcases hc with hc | hc
      · exact b c hc
      · simp at hc; subst hc; rw [dig_toNat]; omega
/-- After some digits (l): m is left, and as many digits are wanted as 'least' says. -/
structure Inv (n least f m : Nat) (l : List UInt8) : Prop where
  hm : m < 10 ^ f
  hf : l.length + f = 20
  hk : least ≤ 20
  d : dgs n least = dgsF f m (least - l.length) ++ l
theorem Inv.start {n least : Nat} (h : n < 10 ^ 20) (hk : least ≤ 20) : Inv n least 20 n [] := ⟨h, by simp, hk, by simp [dgs]⟩
theorem Inv.pos {n least f m : Nat} {l : List UInt8} (h : Inv n least f m l) (hh : 0 < m ∨ l.length < least) : l.length < 20 := by
  obtain ⟨a, b, c, d⟩ := h
  rcases Nat.eq_zero_or_pos f with h0 | h0
  · subst h0; simp at a; omega
  · omega
theorem Inv.next {n least f m : Nat} {l : List UInt8} (h : Inv n least f m l) (hh : 0 < m ∨ l.length < least) : ∃ f', Inv n least f' (m / 10) (dig m :: l) := by
  have hp := h.pos hh
  obtain ⟨a, b, c, d⟩ := h
  obtain ⟨f', rfl⟩ : ∃ f', f = f' + 1 := ⟨f - 1, by omega⟩
  refine ⟨f', pow_step a, by simp; omega, c, ?_⟩
  rw [d, dgsF_step _ _ _ (by omega)]
  simp [Nat.sub_sub]
theorem Inv.stop {n least f m : Nat} {l : List UInt8} (h : Inv n least f m l) (hm : ¬ 0 < m) (hl : ¬ l.length < least) : dgs n least = l := by
  rw [h.d, dgsF_stop _ _ _ ⟨by omega, by omega⟩]; rfl
theorem dgs_all (n k : Nat) (h : n < 10 ^ 20) (hk : k ≤ 20) : k ≤ (dgs n k).length ∧ ∀ c ∈ dgs n k, 48 ≤ c.toNat ∧ c.toNat ≤ 57 := dgsF_all 20 n k h hk
end Dig
end Go.Proofs.YtehdbceemdpbaaaDoor
