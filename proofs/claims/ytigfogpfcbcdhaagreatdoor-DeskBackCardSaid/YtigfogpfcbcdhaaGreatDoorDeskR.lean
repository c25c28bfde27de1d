/- The two readers of pieces in plain Lean: the reference's hex and decimal (which take any bytes), and how long what they read is. No condition. -/
import Derived.Test.YtigfogpfcbcdhaaGreatDoorDeskL
import Derived.IntWalk
set_option linter.unusedVariables false
set_option linter.unusedSimpArgs false
namespace Go.Proofs.YtigfogpfcbcdhaaGreatDoor
namespace Dk
open Go.Lib Go.RowKit
/-! ### the reference's hex -/
def digR (c : UInt8) : Nat := (dig? c).getD 99
def ubR : Bs → Bs
  | a :: b :: l => UInt8.ofNat (digR a * 16 + digR b) :: ubR l
  | _ => []
theorem ubR_hexL (b : Bs) : ubR (hexL b) = b := by
  induction b with
  | nil => rfl
  | cons c l ih =>
    have := c.toNat_lt
    have e1 : digR (hexd (c.toNat / 16)) = c.toNat / 16 := by unfold digR; rw [dig_hexd (by omega)]; rfl
    have e2 : digR (hexd (c.toNat % 16)) = c.toNat % 16 := by unfold digR; rw [dig_hexd (by omega)]; rfl
    simp only [hexL, ubR, e1, e2, ih]
    rw [Nat.mul_comm, byte_halves]
theorem ubR_hexT (b : Bs) : ubR (hexT b) = b := by
  unfold hexT
  split
  · rename_i h; subst h; rfl
  · exact ubR_hexL b
theorem ubR_length (l : Bs) : (ubR l).length = l.length / 2 := by
  induction l using ubR.induct with
  | case1 a b l ih => rw [ubR, List.length_cons, ih]; simp; omega
  | case2 l h =>
    match l, h with
    | [], _ => simp [ubR]
    | [a], _ => simp [ubR]
    | a :: b :: l, h => exact absurd rfl (h a b l)
theorem ubR_snoc : ∀ (n : Nat) (l : Bs) (a b : UInt8), l.length = 2 * n → ubR (l ++ [a, b]) = ubR l ++ [UInt8.ofNat (digR a * 16 + digR b)]
  | 0, l, a, b, h => by
    obtain rfl : l = [] := List.eq_nil_of_length_eq_zero (by omega)
    rfl
  | n + 1, l, a, b, h => by
    match l, h with
    | x :: y :: l, h =>
      rw [List.cons_append, List.cons_append, ubR, ubR, ubR_snoc n l a b (by simp at h; omega)]; rfl
    | [x], h => simp at h; omega
    | [], h => simp at h
/-! ### the reference's decimal -/
def nstep (neg : Bool) (n : Int) (c : UInt8) : Int :=
  if 48 ≤ c.toNat ∧ c.toNat ≤ 57 then (if neg then wrap64 (wrap64 (n * 10) - ((c.toNat : Int) - 48)) else wrap64 (wrap64 (n * 10) + ((c.toNat : Int) - 48))) else n
def nbR (l : Bs) : Int := (l.take 25).foldl (nstep (l.head? == some 45)) 0
theorem wrap_range (n : Int) : -9223372036854775808 ≤ wrap64 n ∧ wrap64 n ≤ 9223372036854775807 := by unfold wrap64; omega
theorem nstep_range (neg : Bool) (n : Int) (c : UInt8) (h : -9223372036854775808 ≤ n ∧ n ≤ 9223372036854775807) : -9223372036854775808 ≤ nstep neg n c ∧ nstep neg n c ≤ 9223372036854775807 := by
  unfold nstep
  split
  · split <;> exact wrap_range _
  · exact h
theorem nfold_range (neg : Bool) (l : Bs) : ∀ n : Int, (-9223372036854775808 ≤ n ∧ n ≤ 9223372036854775807) → -9223372036854775808 ≤ l.foldl (nstep neg) n ∧ l.foldl (nstep neg) n ≤ 9223372036854775807 := by
  induction l with
  | nil => intro n h; exact h
  | cons c l ih => intro n h; exact ih _ (nstep_range neg n c h)
theorem num64R : Num64 nbR := fun x => nfold_range _ _ _ (by decide)
theorem val_ge (l : Bs) : ∀ n : Nat, n ≤ l.foldl (fun n c => n * 10 + (c.toNat - 48)) n := by
  induction l with
  | nil => intro n; exact Nat.le_refl _
  | cons x l ih => intro n; exact Nat.le_trans (show n ≤ n * 10 + (x.toNat - 48) by omega) (ih _)
theorem nfold_pos : ∀ (l : Bs) (n : Nat), (∀ c ∈ l, 48 ≤ c.toNat ∧ c.toNat ≤ 57) → l.foldl (fun n c => n * 10 + (c.toNat - 48)) n ≤ 9223372036854775807 →
    l.foldl (nstep false) (n : Int) = (l.foldl (fun n c => n * 10 + (c.toNat - 48)) n : Nat)
  | [], _, _, _ => rfl
  | c :: l, n, hd, hb => by
    have hc := hd c (by simp)
    rw [List.foldl_cons] at hb ⊢
    have h1 := val_ge l (n * 10 + (c.toNat - 48))
    have e : nstep false (n : Int) c = ((n * 10 + (c.toNat - 48) : Nat) : Int) := by
      unfold nstep
      rw [if_pos hc, if_neg (by decide), IntWalk.wrap64_in ((n : Int) * 10) (by omega), IntWalk.wrap64_in _ (by omega)]
      omega
    rw [e, nfold_pos l _ (fun x hx => hd x (by simp [hx])) hb]
    rfl
theorem nfold_neg : ∀ (l : Bs) (n : Nat), (∀ c ∈ l, 48 ≤ c.toNat ∧ c.toNat ≤ 57) → l.foldl (fun n c => n * 10 + (c.toNat - 48)) n ≤ 9223372036854775808 →
    l.foldl (nstep true) (-(n : Int)) = -((l.foldl (fun n c => n * 10 + (c.toNat - 48)) n : Nat) : Int)
  | [], _, _, _ => rfl
  | c :: l, n, hd, hb => by
    have hc := hd c (by simp)
    rw [List.foldl_cons] at hb ⊢
    have h1 := val_ge l (n * 10 + (c.toNat - 48))
    have e : nstep true (-(n : Int)) c = -((n * 10 + (c.toNat - 48) : Nat) : Int) := by
      unfold nstep
      rw [if_pos hc, if_pos rfl, IntWalk.wrap64_in (-(n : Int) * 10) (by omega), IntWalk.wrap64_in _ (by omega)]
      omega
    rw [e, nfold_neg l _ (fun x hx => hd x (by simp [hx])) hb]
    rfl
theorem nbR_itoa {n : Int} (h0 : -9223372036854775808 ≤ n) (h1 : n ≤ 9223372036854775807) : nbR (itoa n) = n := by
  have hl := itoa_length_le n h0 h1
  unfold nbR
  rw [List.take_of_length_le (by omega)]
  unfold itoa
  by_cases h : n < 0
  · rw [if_pos h]
    have hv := val_dd n.natAbs
    unfold val at hv
    have := nfold_neg (decDigits n.natAbs) 0 (dd_digits _) (by rw [hv]; omega)
    rw [hv] at this
    rw [List.foldl_cons, show ((45 :: decDigits n.natAbs).head? == some 45) = true from rfl, show nstep true 0 45 = -((0 : Nat) : Int) from rfl, this]
    omega
  · rw [if_neg h]
    have hv := val_dd n.toNat
    unfold val at hv
    have := nfold_pos (decDigits n.toNat) 0 (dd_digits _) (by rw [hv]; omega)
    rw [hv] at this
    obtain ⟨c, r, hc, h48, h57⟩ := dd_cons n.toNat
    have hh : ((decDigits n.toNat).head? == some 45) = false := by
      rw [hc, List.head?_cons, beq_eq_false_iff_ne]
      intro e; injection e with e; subst e; revert h48; decide
    rw [hh]
    exact this.trans (by omega)
def gAny (_ : Bs) : Bool := true
theorem readerR : Reader ubR nbR gAny gAny := ⟨ubR_hexT, fun _ => rfl, fun _ => nbR_itoa, fun _ _ _ => rfl⟩
/-! ### lengths -/
theorem hexT_length (b : Bs) : (hexT b).length ≤ 2 * b.length + 1 := by
  unfold hexT
  split
  · simp
  · rw [hexL_length]; omega
theorem unhexL_length : ∀ (l r : Bs), unhexL l = some r → l.length = 2 * r.length
  | [], r, h => by unfold unhexL at h; injection h with h; subst h; rfl
  | [a], r, h => by unfold unhexL at h; cases h
  | a :: b :: l, r, h => by
    unfold unhexL at h
    split at h
    · rename_i x y q hx hy hq
      injection h with h
      subst h
      have := unhexL_length l q hq
      simp; omega
    · cases h
theorem ubD_length (l : Bs) : (ubD l).length ≤ l.length := by
  unfold ubD unhex
  split
  · simp
  · split
    · simp
    · cases h : unhexL l with
      | none => simp
      | some r => have := unhexL_length l r h; simp; omega
/-- What is read holds no more than the pieces. -/
def Short (m : Nat) (st : PSt) : Prop := (∀ b ∈ st.2.1, b.length ≤ m) ∧ (∀ x ∈ st.2.2.1, x.length ≤ m)
theorem pstep_short {ub : Bs → Bs} {nb : Bs → Int} {gb gn : Bs → Bool} (hu : ∀ x, (ub x).length ≤ x.length) {m : Nat} (st : PSt) (c : UInt8) (h : Short m st) : Short m (pstep ub nb gb gn st c) := by
  obtain ⟨ns, bs, ws, ok⟩ := st
  obtain ⟨h1, h2⟩ := h
  simp only at h1 h2
  cases ws with
  | nil => exact ⟨h1, h2⟩
  | cons x ws =>
    have hx := h2 x (by simp)
    have ht : ∀ y ∈ ws, y.length ≤ m := fun y hy => h2 y (by simp [hy])
    unfold pstep
    simp only
    split
    · refine ⟨fun b hb => ?_, ht⟩
      simp only [List.mem_append, List.mem_singleton] at hb
      rcases hb with hb | rfl
      · exact h1 b hb
      · exact Nat.le_trans (hu x) hx
    · split
      · refine ⟨fun b hb => ?_, by intro y hy; cases hy⟩
        simp only [List.mem_append, List.mem_map] at hb
        rcases hb with hb | ⟨y, hy, rfl⟩
        · exact h1 b hb
        · exact Nat.le_trans (hu y) (h2 y hy)
      · exact ⟨h1, ht⟩
theorem split_short (l : Bs) : ∀ x ∈ split l, x.length ≤ l.length := by
  induction l with
  | nil => intro x hx; simp [split] at hx; subst hx; simp
  | cons c l ih =>
    intro x hx
    unfold split at hx
    split at hx
    · rw [List.mem_cons] at hx
      rcases hx with rfl | hx
      · simp
      · have := ih x hx; simp; omega
    · cases hs : split l with
      | nil => exact absurd hs (split_ne l)
      | cons w ws =>
        rw [hs] at hx
        simp only [List.mem_cons] at hx
        rcases hx with rfl | hx
        · have := ih w (by rw [hs]; simp); simp; omega
        · have := ih x (by rw [hs]; simp [hx]); simp; omega
theorem split_count (l : Bs) : (split l).length ≤ l.length + 1 := by
  induction l with
  | nil => simp [split]
  | cons c l ih =>
    unfold split
    split
    · simp; omega
    · cases hs : split l with
      | nil => simp
      | cons w ws => rw [hs] at ih; simp at ih ⊢; omega
end Dk
end Go.Proofs.YtigfogpfcbcdhaaGreatDoor
