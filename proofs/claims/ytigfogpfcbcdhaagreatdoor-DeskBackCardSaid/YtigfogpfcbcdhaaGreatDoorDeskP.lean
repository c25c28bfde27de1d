/- Lines of scripts in plain Lean: a line's text (txt); the pieces of a text; hex and decimal there and back; a text has one line at most, and whoever reads it piece by piece finds that one. No condition but the lengths that are named. -/
import Derived.Lib.ParseIntBCases
import Derived.Lib.ItoaLen
import Derived.Lib.CutLaws
set_option linter.unusedVariables false
set_option linter.unusedSimpArgs false
namespace Go.Proofs.YtigfogpfcbcdhaaGreatDoor
namespace Dk
abbrev Bs := List UInt8
/-! ### words and forms -/
def table : List (Bs × Bs) := [
  ([107, 101, 121], [107, 104, 104, 104]),
  ([112, 117, 116], [114, 104]),
  ([115, 104, 111, 119], [114]),
  ([99, 101, 114, 116], [114, 104, 104, 104, 110, 110, 107, 107, 110]),
  ([99, 114, 108], [114, 104, 110, 110, 107, 42]),
  ([116, 114, 117, 115, 116], [114]),
  ([115, 101, 114, 118, 101], [107, 114]),
  ([114, 101, 113], [114, 104, 110, 104, 110]),
  ([97, 115, 107], [114, 114, 110]),
  ([99, 104, 101, 99, 107], [114, 114, 110]),
  ([115, 101, 97, 108], [114, 104, 107, 114]),
  ([115, 116, 97, 109, 112], [114, 114, 110]),
  ([118, 101, 114, 105, 102, 121], [114, 110]),
  ([102, 97, 105, 108], []),
  ([99, 117, 116], [110]),
  ([115, 116, 97, 114, 116], [])]
def formL (w : Bs) : Option Bs := (table.find? fun p => p.1 == w).map (·.2)
theorem form_mem {w f : Bs} (h : formL w = some f) : (w, f) ∈ table := by
  unfold formL at h
  rw [Option.map_eq_some_iff] at h
  obtain ⟨p, hp, rfl⟩ := h
  have h1 := List.find?_some hp
  have h2 := List.mem_of_find?_eq_some hp
  have : p.1 = w := by simpa using h1
  subst this
  exact h2
/-- What is true of each word and form of the table. -/
theorem form_all {p : Bs → Bs → Bool} (ht : (table.all fun x => p x.1 x.2) = true) {w f : Bs} (h : formL w = some f) : p w f = true := List.all_eq_true.1 ht _ (form_mem h)
theorem word_plain {w f : Bs} (h : formL w = some f) : (32 : UInt8) ∉ w ∧ w ≠ [] ∧ w.length ≤ 6 := by
  have := form_all (p := fun w _ => !w.contains 32 && !w.isEmpty && decide (w.length ≤ 6)) (by decide +kernel) h
  simp only [Bool.and_eq_true, Bool.not_eq_true', decide_eq_true_eq] at this
  refine ⟨?_, ?_, this.2⟩
  · intro hm; have := this.1.1; simp_all
  · intro e; have := this.1.2; simp_all
/-! ### hex -/
def hexd (n : Nat) : UInt8 := if n < 10 then UInt8.ofNat (48 + n) else UInt8.ofNat (87 + n)
def hexL : Bs → Bs
  | [] => []
  | c :: l => hexd (c.toNat / 16) :: hexd (c.toNat % 16) :: hexL l
def hexT (b : Bs) : Bs := if b = [] then [45] else hexL b
theorem hexL_append (a b : Bs) : hexL (a ++ b) = hexL a ++ hexL b := by
  induction a with
  | nil => rfl
  | cons c l ih => simp [hexL, ih]
theorem hexL_length (b : Bs) : (hexL b).length = 2 * b.length := by
  induction b with
  | nil => rfl
  | cons c l ih => simp [hexL, ih]; omega
theorem hexd_fin : ∀ n : Fin 16, (48 ≤ (hexd n.val).toNat ∧ (hexd n.val).toNat ≤ 57 ∧ (hexd n.val).toNat = 48 + n.val) ∨ (97 ≤ (hexd n.val).toNat ∧ (hexd n.val).toNat ≤ 102 ∧ (hexd n.val).toNat = 87 + n.val) := by decide +kernel
/-- A digit's number, if it is one. -/
def dig? (c : UInt8) : Option Nat := if 48 ≤ c.toNat ∧ c.toNat ≤ 57 then some (c.toNat - 48) else if 97 ≤ c.toNat ∧ c.toNat ≤ 102 then some (c.toNat - 87) else none
theorem dig_hexd {n : Nat} (h : n < 16) : dig? (hexd n) = some n := by
  have := hexd_fin ⟨n, h⟩
  unfold dig?
  simp only at this
  rcases this with h1 | h1
  · rw [if_pos ⟨h1.1, h1.2.1⟩]; congr 1; omega
  · rw [if_neg (by omega), if_pos ⟨h1.1, h1.2.1⟩]; congr 1; omega
theorem dig_lt {c : UInt8} {n : Nat} (h : dig? c = some n) : n < 16 := by
  unfold dig? at h
  split at h
  · injection h with h; omega
  · split at h
    · injection h with h; omega
    · cases h
/-- The bytes of digits, two by two: none, if one is no digit or one is left. -/
def unhexL : Bs → Option Bs
  | [] => some []
  | [_] => none
  | a :: b :: l => match dig? a, dig? b, unhexL l with
    | some x, some y, some r => some (UInt8.ofNat (16 * x + y) :: r)
    | _, _, _ => none
def unhex (s : Bs) : Option Bs := if s = [45] then some [] else if s = [] then none else unhexL s
theorem byte_halves (c : UInt8) : UInt8.ofNat (16 * (c.toNat / 16) + c.toNat % 16) = c := by
  rw [Nat.div_add_mod]
  exact UInt8.toNat_inj.1 (by simp)
theorem unhexL_hexL (b : Bs) : unhexL (hexL b) = some b := by
  induction b with
  | nil => rfl
  | cons c l ih =>
    have := c.toNat_lt
    simp only [hexL, unhexL, dig_hexd (show c.toNat / 16 < 16 by omega), dig_hexd (show c.toNat % 16 < 16 by omega), ih, byte_halves]
theorem hexL_ne {b : Bs} (h : b ≠ []) : hexL b ≠ [] ∧ hexL b ≠ [45] := by
  have := hexL_length b
  have hl := List.length_pos_iff.2 h
  refine ⟨fun e => ?_, fun e => ?_⟩ <;> rw [e] at this <;> simp at this <;> omega
theorem unhex_hexT (b : Bs) : unhex (hexT b) = some b := by
  unfold hexT
  by_cases h : b = []
  · subst h; rfl
  · rw [if_neg h]; unfold unhex; rw [if_neg (hexL_ne h).2, if_neg (hexL_ne h).1, unhexL_hexL]
theorem hexT_inj {a b : Bs} (h : hexT a = hexT b) : a = b := by
  have := congrArg unhex h
  rw [unhex_hexT, unhex_hexT] at this
  exact Option.some.inj this
theorem hexL_plain (b : Bs) : ∀ c ∈ hexL b, 48 ≤ c.toNat := by
  induction b with
  | nil => simp [hexL]
  | cons x l ih =>
    intro c hc
    have hx := x.toNat_lt
    have h1 := hexd_fin ⟨x.toNat / 16, by omega⟩
    have h2 := hexd_fin ⟨x.toNat % 16, by omega⟩
    simp only at h1 h2
    rw [hexL, List.mem_cons, List.mem_cons] at hc
    rcases hc with rfl | rfl | hc
    · omega
    · omega
    · exact ih c hc
theorem hexT_plain (b : Bs) : (32 : UInt8) ∉ hexT b ∧ hexT b ≠ [] := by
  unfold hexT
  split
  · simp
  · rename_i h
    exact ⟨fun hm => by have := hexL_plain b _ hm; simp at this, (hexL_ne h).1⟩
/-! ### decimal -/
open Go.Lib
theorem dd_ne (u : Nat) : decDigits u ≠ [] := by
  have h1 := decDigits_length u
  have h2 := nDigits_pos u
  intro e; rw [e] at h1; simp at h1; omega
theorem dd_digits (u : Nat) : ∀ c ∈ decDigits u, 48 ≤ c.toNat ∧ c.toNat ≤ 57 := by
  induction u using Nat.strongRecOn with
  | _ u ih =>
    intro c hc
    rw [decDigits] at hc
    split at hc
    · rw [List.mem_singleton] at hc; subst hc; simp; omega
    · rw [List.mem_append, List.mem_singleton] at hc
      rcases hc with hc | rfl
      · exact ih (u / 10) (by omega) c hc
      · simp; omega
/-- A row of digits as a number. -/
def val (l : Bs) : Nat := l.foldl (fun n c => n * 10 + (c.toNat - 48)) 0
theorem val_snoc (l : Bs) (c : UInt8) : val (l ++ [c]) = val l * 10 + (c.toNat - 48) := by unfold val; rw [List.foldl_append]; rfl
theorem val_dd (u : Nat) : val (decDigits u) = u := by
  induction u using Nat.strongRecOn with
  | _ u ih =>
    rw [decDigits]
    split
    · simp [val]; omega
    · rw [val_snoc, ih (u / 10) (by omega)]; simp; omega
theorem parseM_ok (M : Nat) (hM : M ≤ 18446744073709551615) : ∀ (l : Bs) (acc : Nat), (∀ c ∈ l, 48 ≤ c.toNat ∧ c.toNat ≤ 57) → l.foldl (fun n c => n * 10 + (c.toNat - 48)) acc ≤ M → parseUintM M acc l = .ok (l.foldl (fun n c => n * 10 + (c.toNat - 48)) acc)
  | [], _, _, _ => rfl
  | c :: l, acc, hd, hb => by
    have hc := hd c (by simp)
    have hge : ∀ (l : Bs) (n : Nat), n ≤ l.foldl (fun n c => n * 10 + (c.toNat - 48)) n := by
      intro l
      induction l with
      | nil => intro n; exact Nat.le_refl _
      | cons x l ih => intro n; exact Nat.le_trans (show n ≤ n * 10 + (x.toNat - 48) by omega) (ih _)
    have h1 := hge l (acc * 10 + (c.toNat - 48))
    rw [List.foldl_cons] at hb ⊢
    rw [parseUintM, if_pos hc, if_neg (by omega), if_neg (by omega)]
    exact parseM_ok M hM l _ (fun x hx => hd x (by simp [hx])) hb
theorem parseB_dd {u : Nat} (h : u ≤ 9223372036854775808) : parseUintB 64 (decDigits u) = .ok u := by
  unfold parseUintB
  rw [if_neg (dd_ne u)]
  have hv := val_dd u
  unfold val at hv
  rw [parseM_ok _ (by decide) _ _ (dd_digits u) (by rw [hv]; omega), hv]
theorem dd_cons (u : Nat) : ∃ c r, decDigits u = c :: r ∧ 48 ≤ c.toNat ∧ c.toNat ≤ 57 := by
  cases h : decDigits u with
  | nil => exact absurd h (dd_ne u)
  | cons c r => exact ⟨c, r, rfl, dd_digits u c (by rw [h]; simp)⟩
theorem parse_itoa {n : Int} (h0 : -9223372036854775808 ≤ n) (h1 : n ≤ 9223372036854775807) : parseIntB 64 (itoa n) = .ok n := by
  unfold itoa
  by_cases h : n < 0
  · rw [if_pos h, parseIntB_minus, parseB_dd (by omega)]
    unfold signedC
    simp only
    rw [if_neg (by omega)]
    congr 1; omega
  · rw [if_neg h]
    obtain ⟨c, r, hc, h48, h57⟩ := dd_cons n.toNat
    have hp := parseB_dd (u := n.toNat) (by omega)
    rw [hc] at hp ⊢
    rw [parseIntB_plain _ _ _ (by omega) (by omega), hp]
    unfold signlessC
    simp only
    rw [if_neg (by omega)]
    congr 1; omega
theorem itoa_plain (n : Int) : (32 : UInt8) ∉ itoa n ∧ itoa n ≠ [] := by
  unfold itoa
  split
  · refine ⟨fun hm => ?_, by simp⟩
    rw [List.mem_cons] at hm
    rcases hm with hm | hm
    · revert hm; decide
    · have := dd_digits _ _ hm; simp at this
  · exact ⟨fun hm => by have := dd_digits _ _ hm; simp at this, dd_ne _⟩
end Dk
end Go.Proofs.YtigfogpfcbcdhaaGreatDoor
