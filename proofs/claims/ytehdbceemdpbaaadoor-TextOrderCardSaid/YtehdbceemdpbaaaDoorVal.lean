/- What digits are worth, and that later times have later texts, byte by byte: in plain Lean. No condition: lemmas alone. -/
import Derived.Test.YtehdbceemdpbaaaDoorTime
import Derived.Sort.Walk0
namespace Go.Proofs.YtehdbceemdpbaaaDoor
namespace Vl
/-- What a row of digits is worth. -/
def val : List UInt8 → Nat
  | [] => 0
  | c :: l => (c.toNat - 48) * 10 ^ l.length + val l
def Digits (l : List UInt8) : Prop := ∀ c ∈ l, 48 ≤ c.toNat ∧ c.toNat ≤ 57
theorem Digits.tail {c : UInt8} {l : List UInt8} (h : Digits (c :: l)) : Digits l := fun x hx => h x (List.mem_cons_of_mem _ hx)
theorem Digits.head {c : UInt8} {l : List UInt8} (h : Digits (c :: l)) : 48 ≤ c.toNat ∧ c.toNat ≤ 57 := h c (List.mem_cons_self ..)
theorem val_lt {l : List UInt8} (h : Digits l) : val l < 10 ^ l.length := by
  induction l with
  | nil => simp [val]
  | cons c l ih =>
    have h1 := ih h.tail
    have h2 := h.head
    have h3 : c.toNat - 48 ≤ 9 := by omega
    have h4 : (c.toNat - 48) * 10 ^ l.length ≤ 9 * 10 ^ l.length := Nat.mul_le_mul_right _ h3
    simp only [val, List.length_cons, Nat.pow_succ]
    omega
theorem val_snoc (l : List UInt8) (c : UInt8) : val (l ++ [c]) = 10 * val l + (c.toNat - 48) := by
  induction l with
  | nil => simp [val]
  | cons a l ih =>
    simp only [List.cons_append, val, ih, List.length_append, List.length_cons, List.length_nil, Nat.zero_add, Nat.pow_succ]
    have e : (a.toNat - 48) * (10 ^ l.length * 10) = 10 * ((a.toNat - 48) * 10 ^ l.length) := by rw [← Nat.mul_assoc, Nat.mul_comm]
    omega
theorem dgsF_val (f n k : Nat) (h : n < 10 ^ f) (hk : k ≤ f) : val (Dig.dgsF f n k) = n := by
  induction f generalizing n k with
  | zero => simp at h; subst h; rfl
  | succ f ih =>
    by_cases hh : n = 0 ∧ k = 0
    · rw [Dig.dgsF_stop _ _ _ hh, hh.1]; rfl
    · rw [Dig.dgsF_step _ _ _ hh, val_snoc, ih _ _ (Dig.pow_step h) (by omega), Dig.dig_toNat]; omega
theorem dgs_val (n k : Nat) (h : n < 10 ^ 20) (hk : k ≤ 20) : val (Dig.dgs n k) = n := dgsF_val 20 n k h hk
theorem dgsF_len (f n k : Nat) (h : n < 10 ^ k) (hk : k ≤ f) : (Dig.dgsF f n k).length = k := by
  induction f generalizing n k with
  | zero => simp [Dig.dgsF]; omega
  | succ f ih =>
    cases k with
    | zero => simp at h; subst h; rw [Dig.dgsF_stop _ _ _ ⟨rfl, rfl⟩]; rfl
    | succ k =>
      rw [Dig.dgsF_step _ _ _ (by omega), List.length_append, Nat.add_sub_cancel, ih _ _ (Dig.pow_step h) (by omega)]; rfl
theorem dgs_len (n k : Nat) (h : n < 10 ^ k) (hk : k ≤ 20) : (Dig.dgs n k).length = k := dgsF_len 20 n k h hk
theorem dgs_digits (n k : Nat) (h : n < 10 ^ 20) (hk : k ≤ 20) : Digits (Dig.dgs n k) := (Dig.dgs_all n k h hk).2
/-- Two rows of digits of one length: which text is less. -/
theorem less_app {a b : List UInt8} (ha : Digits a) (hb : Digits b) (hl : a.length = b.length) (x y : List UInt8) :
    Op.bytesLess (a ++ x) (b ++ y) = (decide (val a < val b) || (decide (val a = val b) && Op.bytesLess x y)) := by
  induction a generalizing b with
  | nil =>
    have : b = [] := List.eq_nil_of_length_eq_zero hl.symm
    subst this
    simp [val]
  | cons c a ih =>
    match b, hl with
    | d :: b, hl =>
      have hl' : a.length = b.length := by simpa using hl
      have h1 := val_lt ha.tail
      have h2 := val_lt hb.tail
      have h3 := ha.head
      have h4 := hb.head
      have e1 : val (c :: a) = (c.toNat - 48) * 10 ^ b.length + val a := by rw [← hl']; rfl
      have e2 : val (d :: b) = (d.toNat - 48) * 10 ^ b.length + val b := rfl
      rw [hl'] at h1
      have hc : (c < d) ↔ c.toNat < d.toNat := UInt8.lt_iff_toNat_lt
      have he : (c = d) ↔ c.toNat = d.toNat := UInt8.toNat_inj.symm
      obtain ⟨p, hp⟩ : ∃ p, p = 10 ^ b.length := ⟨_, rfl⟩
      rw [← hp] at h1 h2 e1 e2
      simp only [List.cons_append, Op.bytesLess, ih ha.tail hb.tail hl']
      rcases Nat.lt_trichotomy c.toNat d.toNat with h | h | h
      · have hm : (c.toNat - 48 + 1) * p ≤ (d.toNat - 48) * p := Nat.mul_le_mul_right _ (by omega)
        rw [Nat.add_mul] at hm
        have h5 : val (c :: a) < val (d :: b) := by omega
        have h6 : c < d := hc.2 h
        simp [h5, h6]
      · have e : c = d := he.2 h
        subst e
        have h5 : (val (c :: a) < val (c :: b)) ↔ val a < val b := by omega
        have h6 : (val (c :: a) = val (c :: b)) ↔ val a = val b := by omega
        simp [h5, h6]
      · have hm : (d.toNat - 48 + 1) * p ≤ (c.toNat - 48) * p := Nat.mul_le_mul_right _ (by omega)
        rw [Nat.add_mul] at hm
        have h5 : ¬ val (c :: a) < val (d :: b) := by omega
        have h5' : ¬ val (c :: a) = val (d :: b) := by omega
        have h6 : ¬ c < d := fun e => by have := hc.1 e; omega
        have h7 : (c == d) = false := by
          rw [beq_eq_false_iff_ne]; intro e; have := he.1 e; omega
        simp [h5, h5', h6, h7]
theorem val_app (a b : List UInt8) : val (a ++ b) = val a * 10 ^ b.length + val b := by
  induction a with
  | nil => simp [val]
  | cons c a ih =>
    simp only [List.cons_append, val, ih, List.length_append]
    rw [Nat.add_mul, Nat.pow_add, Nat.mul_assoc]; omega
theorem Digits.app {a b : List UInt8} (ha : Digits a) (hb : Digits b) : Digits (a ++ b) := fun c hc => by
  rcases List.mem_append.1 hc with h | h
  · exact ha c h
  · exact hb c h
/-- Hours, minutes and seconds as one number. -/
def hms (s : Nat) : Nat := s / 3600 * 10000 + s / 60 % 60 * 100 + s % 60
theorem clk_facts (m d s : Nat) (hm : m < 100) (hd : d < 100) (hs : s < 86400) : (Tm.clk m d s).length = 10 ∧ Digits (Tm.clk m d s) ∧ val (Tm.clk m d s) = m * 100000000 + d * 1000000 + hms s := by
  have l1 := dgs_len m 2 (by omega) (by omega)
  have l2 := dgs_len d 2 (by omega) (by omega)
  have l3 := dgs_len (s / 3600) 2 (by omega) (by omega)
  have l4 := dgs_len (s / 60 % 60) 2 (by omega) (by omega)
  have l5 := dgs_len (s % 60) 2 (by omega) (by omega)
  have v1 := dgs_val m 2 (by omega) (by omega)
  have v2 := dgs_val d 2 (by omega) (by omega)
  have v3 := dgs_val (s / 3600) 2 (by omega) (by omega)
  have v4 := dgs_val (s / 60 % 60) 2 (by omega) (by omega)
  have v5 := dgs_val (s % 60) 2 (by omega) (by omega)
  refine ⟨by simp [Tm.clk, l1, l2, l3, l4, l5], ?_, ?_⟩
  · exact ((((dgs_digits m 2 (by omega) (by omega)).app (dgs_digits d 2 (by omega) (by omega))).app (dgs_digits _ 2 (by omega) (by omega))).app (dgs_digits _ 2 (by omega) (by omega))).app (dgs_digits _ 2 (by omega) (by omega))
  · unfold Tm.clk hms
    rw [val_app, val_app, val_app, val_app, l2, l3, l4, l5, v1, v2, v3, v4, v5]; omega
theorem txt_facts (y m d s : Nat) (hy : y < 10000) (hm : m < 100) (hd : d < 100) (hs : s < 86400) : (Tm.txt y m d s 4).length = 14 ∧ Digits (Tm.txt y m d s 4) ∧ val (Tm.txt y m d s 4) = y * 10000000000 + m * 100000000 + d * 1000000 + hms s := by
  obtain ⟨c1, c2, c3⟩ := clk_facts m d s hm hd hs
  have l1 := dgs_len y 4 (by omega) (by omega)
  have v1 := dgs_val y 4 (by omega) (by omega)
  unfold Tm.txt Tm.yr
  rw [if_neg (by decide)]
  exact ⟨by simp [l1, c1], (dgs_digits y 4 (by omega) (by omega)).app c2, by rw [val_app, c1, c3, v1]; omega⟩
theorem is_less {n n' y m d y' m' d' : Int} (h : Cal.Is n y m d) (h' : Cal.Is n' y' m' d') (hl : n < n') : y * 10000 + m * 100 + d < y' * 10000 + m' * 100 + d' := by
  have hw := h.within
  have kw := h'.within
  have e1 := h.d1; have e2 := h'.d1; have e3 := Cal.dim_lo y m; have e4 := Cal.dim_lo y' m'
  have e5 := h.m0; have e6 := h.m1; have e7 := h'.m0; have e8 := h'.m1; have e9 := h.d0; have e10 := h'.d0
  have hy : y ≤ y' := by
    rcases (show y' < y ∨ y ≤ y' by omega) with hc | hc
    · have := Cal.dby_mono (y' + 1) y (by omega); omega
    · exact hc
  by_cases hy2 : y < y'
  · omega
  · obtain rfl : y = y' := by omega
    have k1 := h.n; have k2 := h'.n
    unfold Cal.num at k1 k2
    have hm : m ≤ m' := by
      rcases (show m' < m ∨ m ≤ m' by omega) with hc | hc
      · have a1 := Cal.cum_mono y (m' + 1) m (by omega) (by omega) (by omega)
        have a2 := Cal.cum_succ y m' e7 e8
        omega
      · exact hc
    by_cases hm2 : m < m'
    · omega
    · obtain rfl : m = m' := by omega
      omega
theorem hms_less {s s' : Nat} (h : s < s') : hms s < hms s' := by
  unfold hms
  have e1 : s / 3600 = s / 60 / 60 := by omega
  have e2 : s' / 3600 = s' / 60 / 60 := by omega
  rw [e1, e2]
  have h1 : s / 60 ≤ s' / 60 := by omega
  by_cases h2 : s / 60 < s' / 60
  · have h3 : s / 60 / 60 ≤ s' / 60 / 60 := by omega
    by_cases h4 : s / 60 / 60 < s' / 60 / 60
    · omega
    · omega
  · omega
/-- A later time has a greater text. -/
theorem time_less {t t' : Int} {y m d s y' m' d' s' : Nat} (h : Cal.Is ((t + 62167219200) / 86400) y m d) (hs : (s : Int) = (t + 62167219200) % 86400) (h' : Cal.Is ((t' + 62167219200) / 86400) y' m' d') (hs' : (s' : Int) = (t' + 62167219200) % 86400) (hl : t < t') :
    y * 10000000000 + m * 100000000 + d * 1000000 + hms s < y' * 10000000000 + m' * 100000000 + d' * 1000000 + hms s' := by
  have b1 : hms s < 1000000 := by unfold hms; omega
  by_cases hn : (t + 62167219200) / 86400 < (t' + 62167219200) / 86400
  · have := is_less h h' hn
    omega
  · have e : (t + 62167219200) / 86400 = (t' + 62167219200) / 86400 := by omega
    rw [← e] at h'
    obtain ⟨a, b, c⟩ := h.one h'
    have : s < s' := by omega
    have : hms s < hms s' := hms_less this
    omega
end Vl
end Go.Proofs.YtehdbceemdpbaaaDoor
