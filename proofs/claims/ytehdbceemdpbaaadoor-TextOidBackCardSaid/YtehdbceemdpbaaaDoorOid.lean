/- Object identifiers in plain Lean: their numbers, the parts of a text, digits of 128. No condition: definitions and lemmas alone. -/
import Derived.Lib.UnsafeStr
namespace Go.Proofs.YtehdbceemdpbaaaDoor
namespace Od
def top : Nat := 9223372036854775808
def isDig (c : UInt8) : Bool := decide (48 ≤ c.toNat ∧ c.toNat ≤ 57)
/-- Digits as a number. -/
def val (l : List UInt8) : Nat := l.foldl (fun n c => n * 10 + (c.toNat - 48)) 0
def numL (l : List UInt8) : Option Nat :=
  if l = [] ∨ (1 < l.length ∧ l.head? = some 48) then none else if l.all isDig then (if val l < top then some (val l) else none) else none
theorem val_snoc (l : List UInt8) (c : UInt8) : val (l ++ [c]) = val l * 10 + (c.toNat - 48) := by simp [val]
theorem val_nil : val [] = 0 := rfl
theorem foldl_mono (l : List UInt8) (n : Nat) : n ≤ l.foldl (fun n c => n * 10 + (c.toNat - 48)) n := by
  induction l generalizing n with
  | nil => exact Nat.le_refl _
  | cons c l ih => exact Nat.le_trans (show n ≤ n * 10 + (c.toNat - 48) by omega) (ih _)
theorem val_mono (a b : List UInt8) : val a ≤ val (a ++ b) := by
  unfold val; rw [List.foldl_append]; exact foldl_mono _ _
theorem val_lt (l : List UInt8) (h : l.all isDig) : val l < 10 ^ l.length := by
  have key : ∀ (l : List UInt8), l.all isDig → ∀ n, l.foldl (fun n c => n * 10 + (c.toNat - 48)) n < (n + 1) * 10 ^ l.length := by
    intro l
    induction l with
    | nil => intro _ n; simp
    | cons c l ih =>
      intro h n
      simp only [List.all_cons, Bool.and_eq_true] at h
      have hc : 48 ≤ c.toNat ∧ c.toNat ≤ 57 := by simpa [isDig] using h.1
      refine Nat.lt_of_lt_of_le (ih h.2 _) ?_
      rw [List.length_cons, Nat.pow_succ, Nat.mul_comm (10 ^ l.length) 10, ← Nat.mul_assoc]
      exact Nat.mul_le_mul_right _ (show n * 10 + (c.toNat - 48) + 1 ≤ (n + 1) * 10 by omega)
  have := key l h 0
  simpa [val] using this
theorem numL_bad_at {l : List UInt8} {k : Nat} (h : k < l.length) (hb : isDig l[k] = false) : numL l = none := by
  unfold numL
  split
  · rfl
  · rw [if_neg]
    intro ha
    have := List.all_eq_true.1 ha l[k] (List.getElem_mem h)
    rw [hb] at this; cases this
theorem numL_big {l : List UInt8} {k : Nat} (h : top ≤ val (l.take k)) : numL l = none := by
  have h2 : val (l.take k) ≤ val l := by
    have := val_mono (l.take k) (l.drop k)
    rwa [List.take_append_drop] at this
  unfold numL
  split
  · rfl
  · split
    · rw [if_neg (by omega)]
    · rfl
theorem numL_ok {l : List UInt8} (h0 : ¬ (l = [] ∨ (1 < l.length ∧ l.head? = some 48))) (hd : l.all isDig) (hv : val l < top) : numL l = some (val l) := by
  unfold numL; rw [if_neg h0, if_pos hd, if_pos hv]
theorem all_take_succ {l : List UInt8} {k : Nat} (h : k < l.length) (ha : (l.take k).all isDig) (hc : isDig l[k] = true) : (l.take (k + 1)).all isDig := by
  rw [List.take_succ_eq_append_getElem h, List.all_append]
  simp [ha, hc]
theorem val_take_succ {l : List UInt8} {k : Nat} (h : k < l.length) : val (l.take (k + 1)) = val (l.take k) * 10 + (l[k].toNat - 48) := by
  rw [List.take_succ_eq_append_getElem h, val_snoc]
/-- A text's parts between bytes of one kind. -/
def parts (c : UInt8) : List UInt8 → List (List UInt8)
  | [] => [[]]
  | b :: l => if b = c then [] :: parts c l else match parts c l with
    | [] => [[b]]
    | p :: ps => (b :: p) :: ps
theorem parts_ne (c : UInt8) (l : List UInt8) : parts c l ≠ [] := by
  induction l with
  | nil => simp [parts]
  | cons b l ih =>
    unfold parts
    split
    · simp
    · split <;> simp
theorem parts_none {c : UInt8} {l : List UInt8} (h : ∀ b ∈ l, b ≠ c) : parts c l = [l] := by
  induction l with
  | nil => rfl
  | cons b l ih =>
    unfold parts
    rw [if_neg (h b (by simp)), ih (fun x hx => h x (by simp [hx]))]
theorem parts_cut {c : UInt8} {a b : List UInt8} (h : ∀ x ∈ a, x ≠ c) : parts c (a ++ c :: b) = a :: parts c b := by
  induction a with
  | nil => simp [parts]
  | cons x a ih =>
    rw [List.cons_append, parts, if_neg (h x (by simp)), ih (fun y hy => h y (by simp [hy]))]
theorem parts_length_le (c : UInt8) (l : List UInt8) : (parts c l).length ≤ l.length + 1 := by
  induction l with
  | nil => simp [parts]
  | cons b l ih =>
    unfold parts
    split
    · simp; omega
    · split
      · simp
      · rename_i p ps hp; rw [hp] at ih; simp at ih ⊢; omega
theorem parts_len {c : UInt8} : ∀ {l : List UInt8}, ∀ p ∈ parts c l, p.length ≤ l.length
  | [], p, hp => by simp [parts] at hp; simp [hp]
  | b :: l, p, hp => by
    unfold parts at hp
    split at hp
    · rcases List.mem_cons.1 hp with rfl | hp
      · simp
      · have := parts_len p hp; simp; omega
    · split at hp
      · simp at hp; simp [hp]
      · rename_i q qs hq
        rcases List.mem_cons.1 hp with rfl | hp
        · have := parts_len (l := l) (c := c) q (by rw [hq]; simp); simp; omega
        · have := parts_len (l := l) (c := c) p (by rw [hq]; simp [hp]); simp; omega
/-- All numbers, or none. -/
def numsOf : List (List UInt8) → Option (List Nat)
  | [] => some []
  | p :: ps => match numL p, numsOf ps with
    | some n, some ns => some (n :: ns)
    | _, _ => none
def oidOk (l : List Nat) : Bool := decide (2 ≤ l.length ∧ ((l.getD 0 0 = 2 ∧ l.getD 1 0 < top - 80) ∨ (l.getD 0 0 < 2 ∧ l.getD 1 0 < 40)))
/-- The digits of 128 but the last one. -/
def hiF : Nat → Nat → List UInt8
  | 0, _ => []
  | f + 1, m => if m = 0 then [] else hiF f (m / 128) ++ [UInt8.ofNat (m % 128 + 128)]
def b128 (n : Nat) : List UInt8 := hiF 10 (n / 128) ++ [UInt8.ofNat (n % 128)]
def dg (n j : Nat) : UInt8 := UInt8.ofNat (n / 128 ^ j % 128 + 128)
/-- The digits from the k-th down to the first. -/
def dn (n : Nat) : Nat → List UInt8
  | 0 => []
  | k + 1 => dg n (k + 1) :: dn n k
theorem dg_shift (n j : Nat) : dg n (j + 1) = dg (n / 128) j := by
  unfold dg
  rw [Nat.pow_succ, Nat.mul_comm, ← Nat.div_div_eq_div_mul]
theorem dn_shift (n k : Nat) : dn n (k + 1) = dn (n / 128) k ++ [dg n 1] := by
  induction k with
  | zero => rfl
  | succ k ih =>
    show dg n (k + 2) :: dn n (k + 1) = (dg (n / 128) (k + 1) :: dn (n / 128) k) ++ [dg n 1]
    rw [ih, dg_shift]; rfl
theorem hi_dn (K : Nat) : ∀ (f n : Nat), K ≤ f → n / 128 ^ (K + 1) = 0 → (K = 0 ∨ n / 128 ^ K ≠ 0) → hiF f (n / 128) = dn n K := by
  induction K with
  | zero =>
    intro f n _ h _
    have : n / 128 = 0 := by simpa using h
    rw [this]
    cases f <;> simp [hiF, dn]
  | succ K ih =>
    intro f n hf h h2
    obtain ⟨f, rfl⟩ : ∃ f', f = f' + 1 := ⟨f - 1, by omega⟩
    have hne : n / 128 ≠ 0 := by
      intro e
      rcases h2 with h2 | h2
      · omega
      · apply h2
        rw [Nat.pow_succ, Nat.mul_comm, ← Nat.div_div_eq_div_mul, e, Nat.zero_div]
    have e1 : ∀ j, n / 128 / 128 ^ j = n / 128 ^ (j + 1) := fun j => by
      rw [Nat.div_div_eq_div_mul, Nat.pow_succ, Nat.mul_comm]
    simp only [hiF, if_neg hne]
    rw [ih f (n / 128) (by omega) (by rw [e1]; exact h) (by
      rcases Nat.eq_zero_or_pos K with h0 | h0
      · exact .inl h0
      · right
        rw [e1]
        rcases h2 with h2 | h2
        · omega
        · exact h2), dn_shift]
    simp [dg]
theorem b128_dn {n K : Nat} (hK : K ≤ 10) (h : n / 128 ^ (K + 1) = 0) (h2 : K = 0 ∨ n / 128 ^ K ≠ 0) : b128 n = dn n K ++ [UInt8.ofNat (n % 128)] := by
  unfold b128; rw [hi_dn K 10 n hK h h2]
theorem pow_two (k : Nat) : (2 : Nat) ^ (7 * k) = 128 ^ k := by rw [Nat.pow_mul]
theorem b128_length (n : Nat) : (b128 n).length ≤ 11 := by
  have : ∀ f m, (hiF f m).length ≤ f := by
    intro f
    induction f with
    | zero => intro m; simp [hiF]
    | succ f ih => intro m; unfold hiF; split
                   · simp
                   · have := ih (m / 128); simp; omega
  have := this 10 (n / 128)
  unfold b128; simp; omega
/-- An object identifier's bytes, of its numbers. -/
def bytesOf (l : List Nat) : List UInt8 := b128 (40 * l.getD 0 0 + l.getD 1 0) ++ (l.drop 2).flatMap b128
/-- Its bytes, of its text. -/
def enc (s : List UInt8) : Option (List UInt8) := match numsOf (parts 46 s) with
  | some l => if oidOk l then some (bytesOf l) else none
  | none => none
end Od
end Go.Proofs.YtehdbceemdpbaaaDoor
