/- Texts read as times, in plain Lean: what a short and a long text say, and that times and texts go there and back. No condition: definitions and lemmas alone. -/
import Derived.Test.YtehdbceemdpbaaaDoorTime
import Derived.PlainAid
import Derived.Lib.UnsafeStr
namespace Go.Proofs.YtehdbceemdpbaaaDoor
namespace Pr
open Go.PlainAid
/-- A byte of a list, as a number. -/
def lb (l : List UInt8) (k : Nat) : Int := ((l.getD k 0).toNat : Int)
/-- A date and a clock. -/
def AtOk (y m d h i s : Int) : Prop := 0 ≤ y ∧ y ≤ 9999 ∧ 1 ≤ m ∧ m ≤ 12 ∧ 1 ≤ d ∧ d ≤ Cal.dim y m ∧ 0 ≤ h ∧ h ≤ 23 ∧ 0 ≤ i ∧ i ≤ 59 ∧ 0 ≤ s ∧ s ≤ 59
instance (y m d h i s : Int) : Decidable (AtOk y m d h i s) := by unfold AtOk; infer_instance
/-- Its time. -/
def atT (y m d h i s : Int) : Int := Cal.num y m d * 86400 - 62167219200 + h * 3600 + i * 60 + s
def atO (y m d h i s : Int) : Option Int := if AtOk y m d h i s then some (atT y m d h i s) else none
/-- Two digits as a number; -1: they are none. -/
def tw (l : List UInt8) (k : Nat) : Int := if 48 ≤ lb l k ∧ lb l k ≤ 57 ∧ 48 ≤ lb l (k + 1) ∧ lb l (k + 1) ≤ 57 then (lb l k - 48) * 10 + (lb l (k + 1) - 48) else -1
theorem tw_range (l : List UInt8) (k : Nat) : -1 ≤ tw l k ∧ tw l k ≤ 99 := by unfold tw; split <;> omega
/-- The time of a year and ten digits from a place on. -/
def momO (y : Int) (l : List UInt8) (k : Nat) : Option Int := atO y (tw l k) (tw l (k + 2)) (tw l (k + 4)) (tw l (k + 6)) (tw l (k + 8))
def isDig (c : UInt8) : Bool := decide (48 ≤ c.toNat ∧ c.toNat ≤ 57)
def val (l : List UInt8) : Nat := l.foldl (fun n c => n * 10 + (c.toNat - 48)) 0
def shortO (l : List UInt8) : Option Int :=
  if l.length = 13 ∧ lb l 12 = 90 ∧ 0 ≤ tw l 0 then momO (if tw l 0 < 50 then 2000 + tw l 0 else 1900 + tw l 0) l 2 else none
/-- Six digits of a fraction. -/
def frac (l : List UInt8) : List UInt8 := (l.drop 15).take (l.length - 16) ++ List.replicate (22 - l.length) 48
/-- Whether a long text has its form, but for its fourteen digits. -/
def Form (l : List UInt8) : Prop := 15 ≤ l.length ∧ l.length ≤ 22 ∧ l.length ≠ 16 ∧ lb l (l.length - 1) = 90 ∧ (15 < l.length → lb l 14 = 46 ∧ lb l (l.length - 2) ≠ 48 ∧ (frac l).all isDig = true)
instance (l : List UInt8) : Decidable (Form l) := by unfold Form; infer_instance
def longO (l : List UInt8) : Option (Int × Int) :=
  if Form l ∧ 0 ≤ tw l 0 ∧ 0 ≤ tw l 2 then (match momO (tw l 0 * 100 + tw l 2) l 4 with
    | some t => some (t, if l.length = 15 then 0 else (val (frac l) : Int))
    | none => none) else none
/-! ### digits -/
theorem dgs2 {n : Nat} (h : n < 100) : Dig.dgs n 2 = [Dig.dig (n / 10), Dig.dig n] := by
  unfold Dig.dgs
  rw [Dig.dgsF_step _ _ _ (by omega), Dig.dgsF_step _ _ _ (by omega), Dig.dgsF_stop _ _ _ (by omega)]; rfl
theorem dgs4 {n : Nat} (h : n < 10000) : Dig.dgs n 4 = [Dig.dig (n / 10 / 10 / 10), Dig.dig (n / 10 / 10), Dig.dig (n / 10), Dig.dig n] := by
  unfold Dig.dgs
  rw [Dig.dgsF_step _ _ _ (by omega), Dig.dgsF_step _ _ _ (by omega), Dig.dgsF_step _ _ _ (by omega), Dig.dgsF_step _ _ _ (by omega), Dig.dgsF_stop _ _ _ (by omega)]; rfl
theorem dgs6 {n : Nat} (h : n < 1000000) : Dig.dgs n 6 = [Dig.dig (n / 10 / 10 / 10 / 10 / 10), Dig.dig (n / 10 / 10 / 10 / 10), Dig.dig (n / 10 / 10 / 10), Dig.dig (n / 10 / 10), Dig.dig (n / 10), Dig.dig n] := by
  unfold Dig.dgs
  rw [Dig.dgsF_step _ _ _ (by omega), Dig.dgsF_step _ _ _ (by omega), Dig.dgsF_step _ _ _ (by omega), Dig.dgsF_step _ _ _ (by omega), Dig.dgsF_step _ _ _ (by omega), Dig.dgsF_step _ _ _ (by omega), Dig.dgsF_stop _ _ _ (by omega)]; rfl
theorem dig_of {c : UInt8} {n : Nat} (h : 48 ≤ c.toNat ∧ c.toNat ≤ 57) (e : n % 10 = c.toNat - 48) : Dig.dig n = c := by
  apply UInt8.toNat_inj.1
  rw [Dig.dig_toNat]; omega
theorem dig_int (n : Nat) : ((Dig.dig n).toNat : Int) = 48 + (n % 10 : Nat) := by rw [Dig.dig_toNat]; omega
/-- The text of a date and a clock, byte by byte. -/
theorem txt_eq {y m d s : Nat} (hy : y < 10000) (hm : m < 100) (hd : d < 100) (hs : s < 86400) : Tm.txt y m d s 4 =
    [Dig.dig (y / 10 / 10 / 10), Dig.dig (y / 10 / 10), Dig.dig (y / 10), Dig.dig y, Dig.dig (m / 10), Dig.dig m, Dig.dig (d / 10), Dig.dig d, Dig.dig (s / 3600 / 10), Dig.dig (s / 3600), Dig.dig (s / 60 % 60 / 10), Dig.dig (s / 60 % 60), Dig.dig (s % 60 / 10), Dig.dig (s % 60)] := by
  unfold Tm.txt Tm.clk Tm.yr
  rw [if_neg (by decide), dgs4 hy, dgs2 hm, dgs2 hd, dgs2 (by omega), dgs2 (by omega), dgs2 (by omega)]; rfl
theorem txt_eq2 {y m d s : Nat} (hm : m < 100) (hd : d < 100) (hs : s < 86400) : Tm.txt y m d s 2 =
    [Dig.dig (y % 100 / 10), Dig.dig (y % 100), Dig.dig (m / 10), Dig.dig m, Dig.dig (d / 10), Dig.dig d, Dig.dig (s / 3600 / 10), Dig.dig (s / 3600), Dig.dig (s / 60 % 60 / 10), Dig.dig (s / 60 % 60), Dig.dig (s % 60 / 10), Dig.dig (s % 60)] := by
  unfold Tm.txt Tm.clk Tm.yr
  rw [if_pos rfl, dgs2 (by omega), dgs2 hm, dgs2 hd, dgs2 (by omega), dgs2 (by omega), dgs2 (by omega)]; rfl
theorem tw_dig {l : List UInt8} {k n : Nat} (h0 : l.getD k 0 = Dig.dig (n / 10)) (h1 : l.getD (k + 1) 0 = Dig.dig n) (hn : n < 100) : tw l k = n := by
  unfold tw lb
  rw [h0, h1, dig_int, dig_int, if_pos (by omega)]; omega
theorem at_ok {y m d s : Nat} {t : Int} (h : Cal.Is ((t + 62167219200) / 86400) y m d) (hs : (s : Int) = (t + 62167219200) % 86400) : atO y m d (s / 3600 : Nat) (s / 60 % 60 : Nat) (s % 60 : Nat) = some t := by
  obtain ⟨y0, y1, m0, m1, d0, d1, hn⟩ := h
  have e : (s : Int) = (s / 3600 : Nat) * 3600 + (s / 60 % 60 : Nat) * 60 + (s % 60 : Nat) := by omega
  unfold atO atT
  rw [if_pos ⟨y0, y1, m0, m1, d0, d1, by omega, by omega, by omega, by omega, by omega, by omega⟩, hn]
  congr 1; omega
/-- The parts of a text of fourteen digits and more. -/
theorem mom_txt {y m d s : Nat} {t : Int} (h : Cal.Is ((t + 62167219200) / 86400) y m d) (hs : (s : Int) = (t + 62167219200) % 86400) (r : List UInt8) :
    tw (Tm.txt y m d s 4 ++ r) 0 * 100 + tw (Tm.txt y m d s 4 ++ r) 2 = y ∧ 0 ≤ tw (Tm.txt y m d s 4 ++ r) 0 ∧ 0 ≤ tw (Tm.txt y m d s 4 ++ r) 2 ∧ momO y (Tm.txt y m d s 4 ++ r) 4 = some t := by
  have a1 := h.y1; have a2 := h.m1; have a3 := h.d1; have a4 := Cal.dim_lo y m
  rw [txt_eq (by omega) (by omega) (by omega) (by omega)]
  have t0 : tw ([Dig.dig (y / 10 / 10 / 10), Dig.dig (y / 10 / 10), Dig.dig (y / 10), Dig.dig y, Dig.dig (m / 10), Dig.dig m, Dig.dig (d / 10), Dig.dig d, Dig.dig (s / 3600 / 10), Dig.dig (s / 3600), Dig.dig (s / 60 % 60 / 10), Dig.dig (s / 60 % 60), Dig.dig (s % 60 / 10), Dig.dig (s % 60)] ++ r) 0 = (y / 10 / 10 : Nat) := tw_dig rfl rfl (by omega)
  have t1 : tw ([Dig.dig (y / 10 / 10 / 10), Dig.dig (y / 10 / 10), Dig.dig (y / 10), Dig.dig y, Dig.dig (m / 10), Dig.dig m, Dig.dig (d / 10), Dig.dig d, Dig.dig (s / 3600 / 10), Dig.dig (s / 3600), Dig.dig (s / 60 % 60 / 10), Dig.dig (s / 60 % 60), Dig.dig (s % 60 / 10), Dig.dig (s % 60)] ++ r) 2 = (y % 100 : Nat) := by
    refine tw_dig (n := y % 100) ?_ ?_ (by omega)
    · show Dig.dig (y / 10) = _
      exact dig_of (by rw [Dig.dig_toNat]; omega) (by rw [Dig.dig_toNat]; omega) |>.symm
    · show Dig.dig y = _
      exact dig_of (by rw [Dig.dig_toNat]; omega) (by rw [Dig.dig_toNat]; omega) |>.symm
  have t2 : tw ([Dig.dig (y / 10 / 10 / 10), Dig.dig (y / 10 / 10), Dig.dig (y / 10), Dig.dig y, Dig.dig (m / 10), Dig.dig m, Dig.dig (d / 10), Dig.dig d, Dig.dig (s / 3600 / 10), Dig.dig (s / 3600), Dig.dig (s / 60 % 60 / 10), Dig.dig (s / 60 % 60), Dig.dig (s % 60 / 10), Dig.dig (s % 60)] ++ r) 4 = m := tw_dig rfl rfl (by omega)
  have t3 : tw ([Dig.dig (y / 10 / 10 / 10), Dig.dig (y / 10 / 10), Dig.dig (y / 10), Dig.dig y, Dig.dig (m / 10), Dig.dig m, Dig.dig (d / 10), Dig.dig d, Dig.dig (s / 3600 / 10), Dig.dig (s / 3600), Dig.dig (s / 60 % 60 / 10), Dig.dig (s / 60 % 60), Dig.dig (s % 60 / 10), Dig.dig (s % 60)] ++ r) 6 = d := tw_dig rfl rfl (by omega)
  have t4 : tw ([Dig.dig (y / 10 / 10 / 10), Dig.dig (y / 10 / 10), Dig.dig (y / 10), Dig.dig y, Dig.dig (m / 10), Dig.dig m, Dig.dig (d / 10), Dig.dig d, Dig.dig (s / 3600 / 10), Dig.dig (s / 3600), Dig.dig (s / 60 % 60 / 10), Dig.dig (s / 60 % 60), Dig.dig (s % 60 / 10), Dig.dig (s % 60)] ++ r) 8 = (s / 3600 : Nat) := tw_dig rfl rfl (by omega)
  have t5 : tw ([Dig.dig (y / 10 / 10 / 10), Dig.dig (y / 10 / 10), Dig.dig (y / 10), Dig.dig y, Dig.dig (m / 10), Dig.dig m, Dig.dig (d / 10), Dig.dig d, Dig.dig (s / 3600 / 10), Dig.dig (s / 3600), Dig.dig (s / 60 % 60 / 10), Dig.dig (s / 60 % 60), Dig.dig (s % 60 / 10), Dig.dig (s % 60)] ++ r) 10 = (s / 60 % 60 : Nat) := tw_dig rfl rfl (by omega)
  have t6 : tw ([Dig.dig (y / 10 / 10 / 10), Dig.dig (y / 10 / 10), Dig.dig (y / 10), Dig.dig y, Dig.dig (m / 10), Dig.dig m, Dig.dig (d / 10), Dig.dig d, Dig.dig (s / 3600 / 10), Dig.dig (s / 3600), Dig.dig (s / 60 % 60 / 10), Dig.dig (s / 60 % 60), Dig.dig (s % 60 / 10), Dig.dig (s % 60)] ++ r) 12 = (s % 60 : Nat) := tw_dig rfl rfl (by omega)
  unfold momO
  rw [t0, t1, t2, t3, t4, t5, t6]
  exact ⟨by omega, by omega, by omega, at_ok h hs⟩
theorem short_back {y m d s : Nat} {t : Int} (h : Cal.Is ((t + 62167219200) / 86400) y m d) (hs : (s : Int) = (t + 62167219200) % 86400) (hy0 : 1950 ≤ y) (hy1 : y ≤ 2049) : shortO (Tm.short y m d s) = some t := by
  have a2 := h.m1; have a3 := h.d1; have a4 := Cal.dim_lo y m
  unfold Tm.short
  rw [txt_eq2 (by omega) (by omega) (by omega)]
  have t0 : tw ([Dig.dig (y % 100 / 10), Dig.dig (y % 100), Dig.dig (m / 10), Dig.dig m, Dig.dig (d / 10), Dig.dig d, Dig.dig (s / 3600 / 10), Dig.dig (s / 3600), Dig.dig (s / 60 % 60 / 10), Dig.dig (s / 60 % 60), Dig.dig (s % 60 / 10), Dig.dig (s % 60)] ++ [90]) 0 = (y % 100 : Nat) := tw_dig rfl rfl (by omega)
  have t2 : tw ([Dig.dig (y % 100 / 10), Dig.dig (y % 100), Dig.dig (m / 10), Dig.dig m, Dig.dig (d / 10), Dig.dig d, Dig.dig (s / 3600 / 10), Dig.dig (s / 3600), Dig.dig (s / 60 % 60 / 10), Dig.dig (s / 60 % 60), Dig.dig (s % 60 / 10), Dig.dig (s % 60)] ++ [90]) 2 = m := tw_dig rfl rfl (by omega)
  have t3 : tw ([Dig.dig (y % 100 / 10), Dig.dig (y % 100), Dig.dig (m / 10), Dig.dig m, Dig.dig (d / 10), Dig.dig d, Dig.dig (s / 3600 / 10), Dig.dig (s / 3600), Dig.dig (s / 60 % 60 / 10), Dig.dig (s / 60 % 60), Dig.dig (s % 60 / 10), Dig.dig (s % 60)] ++ [90]) 4 = d := tw_dig rfl rfl (by omega)
  have t4 : tw ([Dig.dig (y % 100 / 10), Dig.dig (y % 100), Dig.dig (m / 10), Dig.dig m, Dig.dig (d / 10), Dig.dig d, Dig.dig (s / 3600 / 10), Dig.dig (s / 3600), Dig.dig (s / 60 % 60 / 10), Dig.dig (s / 60 % 60), Dig.dig (s % 60 / 10), Dig.dig (s % 60)] ++ [90]) 6 = (s / 3600 : Nat) := tw_dig rfl rfl (by omega)
  have t5 : tw ([Dig.dig (y % 100 / 10), Dig.dig (y % 100), Dig.dig (m / 10), Dig.dig m, Dig.dig (d / 10), Dig.dig d, Dig.dig (s / 3600 / 10), Dig.dig (s / 3600), Dig.dig (s / 60 % 60 / 10), Dig.dig (s / 60 % 60), Dig.dig (s % 60 / 10), Dig.dig (s % 60)] ++ [90]) 8 = (s / 60 % 60 : Nat) := tw_dig rfl rfl (by omega)
  have t6 : tw ([Dig.dig (y % 100 / 10), Dig.dig (y % 100), Dig.dig (m / 10), Dig.dig m, Dig.dig (d / 10), Dig.dig d, Dig.dig (s / 3600 / 10), Dig.dig (s / 3600), Dig.dig (s / 60 % 60 / 10), Dig.dig (s / 60 % 60), Dig.dig (s % 60 / 10), Dig.dig (s % 60)] ++ [90]) 10 = (s % 60 : Nat) := tw_dig rfl rfl (by omega)
  unfold shortO momO
  rw [t0, t2, t3, t4, t5, t6, if_pos ⟨rfl, rfl, by omega⟩]
  have e : (if ((y % 100 : Nat) : Int) < 50 then 2000 + ((y % 100 : Nat) : Int) else 1900 + ((y % 100 : Nat) : Int)) = (y : Int) := by split <;> omega
  rw [e]
  exact at_ok h hs
/-! ### the fraction -/
theorem rstrip_noughts (F : List UInt8) : ∀ k, Tm.rstrip (F ++ List.replicate k 48) = Tm.rstrip F
  | 0 => by simp
  | k + 1 => by
    rw [List.replicate_succ', ← List.append_assoc, Tm.rstrip_nought, rstrip_noughts F k]
theorem rstrip_split : ∀ (n : Nat) (l : List UInt8), l.length = n → ∃ k, l = Tm.rstrip l ++ List.replicate k 48 ∧ (Tm.rstrip l = [] ∨ ∃ p c, Tm.rstrip l = p ++ [c] ∧ c ≠ 48)
  | 0, l, h => by
    have : l = [] := List.eq_nil_of_length_eq_zero h
    subst this; exact ⟨0, rfl, .inl rfl⟩
  | n + 1, l, h => by
    rcases List.eq_nil_or_concat l with h0 | ⟨p, c, h0⟩
    · subst h0; cases h
    · rw [List.concat_eq_append] at h0
      subst h0
      by_cases hc : c = 48
      · subst hc
        obtain ⟨k, e, hl⟩ := rstrip_split n p (by simpa using h)
        rw [Tm.rstrip_nought]
        refine ⟨k + 1, ?_, hl⟩
        rw [List.replicate_succ', ← List.append_assoc, ← e]
      · exact ⟨0, by rw [Tm.rstrip_other _ _ hc]; simp, .inr ⟨p, c, Tm.rstrip_other _ _ hc, hc⟩⟩
theorem val_snoc (l : List UInt8) (c : UInt8) : val (l ++ [c]) = val l * 10 + (c.toNat - 48) := by simp [val]
theorem val_dgsF : ∀ (f n k : Nat), n < 10 ^ f → k ≤ f → val (Dig.dgsF f n k) = n
  | 0, n, k, h, _ => by
    have : n = 0 := by simpa using h
    subst this; rfl
  | f + 1, n, k, h, hk => by
    by_cases hh : n = 0 ∧ k = 0
    · rw [Dig.dgsF_stop _ _ _ hh, hh.1]; rfl
    · rw [Dig.dgsF_step _ _ _ hh, val_snoc, val_dgsF f _ _ (Dig.pow_step h) (by omega), Dig.dig_toNat]; omega
theorem all_digs {n k : Nat} (h : n < 10 ^ 20) (hk : k ≤ 20) : (Dig.dgs n k).all isDig = true := by
  have := (Dig.dgs_all n k h hk).2
  rw [List.all_eq_true]
  intro c hc
  simpa [isDig] using this c hc
theorem dgs_val6 {l : List UInt8} (hl : l.length = 6) (hd : l.all isDig = true) : val l < 1000000 ∧ Dig.dgs (val l) 6 = l := by
  match l, hl with
  | [a, b, c, d, e, f], _ =>
    simp only [List.all_cons, List.all_nil, Bool.and_true, Bool.and_eq_true, isDig, decide_eq_true_eq] at hd
    obtain ⟨ha, hb, hc, hd, he, hf⟩ := hd
    have hv : val [a, b, c, d, e, f] = (((((a.toNat - 48) * 10 + (b.toNat - 48)) * 10 + (c.toNat - 48)) * 10 + (d.toNat - 48)) * 10 + (e.toNat - 48)) * 10 + (f.toNat - 48) := by simp [val]
    rw [hv]
    refine ⟨by omega, ?_⟩
    rw [dgs6 (by omega), dig_of ha (by omega), dig_of hb (by omega), dig_of hc (by omega), dig_of hd (by omega), dig_of he (by omega), dig_of hf (by omega)]
/-- The long text, its fraction apart. -/
theorem long_eq {y m d s u : Nat} : Tm.long y m d s u = Tm.txt y m d s 4 ++ ((if u = 0 then [] else 46 :: Tm.rstrip (Dig.dgs u 6)) ++ [90]) := by
  unfold Tm.long
  by_cases hu : u = 0
  · rw [if_pos hu, if_pos hu]; rfl
  · rw [if_neg hu, if_neg hu, Tm.rstrip_dot, List.append_assoc]
theorem lb_last (p : List UInt8) (c : UInt8) : lb (p ++ [c]) ((p ++ [c]).length - 1) = c.toNat := by
  unfold lb; simp [List.getD]
theorem lb_last2 (p : List UInt8) (c d : UInt8) : lb (p ++ [c] ++ [d]) ((p ++ [c] ++ [d]).length - 2) = c.toNat := by
  unfold lb; simp [List.getD]
/-- The time of a time's long text. -/
theorem long_back {y m d s u : Nat} {t : Int} (h : Cal.Is ((t + 62167219200) / 86400) y m d) (hs : (s : Int) = (t + 62167219200) % 86400) (hu : u ≤ 999999) : longO (Tm.long y m d s u) = some (t, (u : Int)) := by
  have a1 := h.y1; have a2 := h.m1; have a3 := h.d1; have a4 := Cal.dim_lo y m
  have hlt : (Tm.txt y m d s 4).length = 14 := by rw [txt_eq (by omega) (by omega) (by omega) (by omega)]; rfl
  rw [long_eq]
  by_cases hu0 : u = 0
  · subst hu0
    rw [if_pos rfl, List.nil_append]
    obtain ⟨e1, e2, e3, e4⟩ := mom_txt h hs [90]
    have hf : Form (Tm.txt y m d s 4 ++ [90]) := by
      refine ⟨by simp; omega, by simp; omega, by simp; omega, ?_, fun hc => ?_⟩
      · rw [lb_last]; rfl
      · simp at hc; omega
    unfold longO
    rw [if_pos ⟨hf, e2, e3⟩, e1, e4]
    simp [hlt]
  · rw [if_neg hu0]
    obtain ⟨k, hk, hl⟩ := rstrip_split _ (Dig.dgs u 6) rfl
    have h6 : (Dig.dgs u 6).length = 6 := by rw [dgs6 (by omega)]; rfl
    have hne : Tm.rstrip (Dig.dgs u 6) ≠ [] := by
      intro e
      rw [e, List.nil_append] at hk
      have hv := val_dgsF 20 u 6 (by omega) (by omega)
      have hk6 : k = 6 := by have := congrArg List.length hk; simp at this; omega
      subst hk6
      have : val (Dig.dgs u 6) = 0 := by rw [hk]; decide
      unfold Dig.dgs at this
      omega
    obtain ⟨F, hF⟩ : ∃ F, F = Tm.rstrip (Dig.dgs u 6) := ⟨_, rfl⟩
    rw [← hF] at hk hl hne
    rw [← hF]
    obtain ⟨p, c, hpc, hc⟩ := hl.resolve_left hne
    have hkl : F.length + k = 6 := by have := congrArg List.length hk; rw [h6] at this; simp at this; omega
    have hF1 : 1 ≤ F.length := by rw [hpc]; simp
    obtain ⟨e1, e2, e3, e4⟩ := mom_txt h hs (46 :: F ++ [90])
    have hlen : (Tm.txt y m d s 4 ++ (46 :: F ++ [90])).length = F.length + 16 := by simp [hlt]; omega
    have hfr : frac (Tm.txt y m d s 4 ++ (46 :: F ++ [90])) = Dig.dgs u 6 := by
      unfold frac
      rw [hlen, hk, show F.length + 16 - 16 = F.length by omega, show 22 - (F.length + 16) = k by omega]
      congr 1
      rw [List.drop_append, hlt, List.drop_of_length_le (by omega)]
      simp
    have hlast : lb (Tm.txt y m d s 4 ++ (46 :: F ++ [90])) ((Tm.txt y m d s 4 ++ (46 :: F ++ [90])).length - 1) = 90 := by
      rw [show Tm.txt y m d s 4 ++ (46 :: F ++ [90]) = (Tm.txt y m d s 4 ++ 46 :: F) ++ [90] by simp, lb_last]; rfl
    have hlast2 : lb (Tm.txt y m d s 4 ++ (46 :: F ++ [90])) ((Tm.txt y m d s 4 ++ (46 :: F ++ [90])).length - 2) = c.toNat := by
      rw [show Tm.txt y m d s 4 ++ (46 :: F ++ [90]) = (Tm.txt y m d s 4 ++ 46 :: p) ++ [c] ++ [90] by rw [hpc]; simp, lb_last2]
    have hdot : lb (Tm.txt y m d s 4 ++ (46 :: F ++ [90])) 14 = 46 := by
      unfold lb
      simp [List.getD, List.getElem?_append_right, hlt]
    have hf : Form (Tm.txt y m d s 4 ++ (46 :: F ++ [90])) := by
      refine ⟨by omega, by omega, by omega, hlast, fun _ => ⟨hdot, ?_, ?_⟩⟩
      · rw [hlast2]
        intro e
        exact hc (UInt8.toNat_inj.1 (by simpa using (show c.toNat = 48 by omega)))
      · rw [hfr]; exact all_digs (by omega) (by omega)
    unfold longO
    rw [if_pos ⟨hf, e2, e3⟩, e1, e4, hfr]
    have hv : val (Dig.dgs u 6) = u := val_dgsF 20 u 6 (by omega) (by omega)
    simp only [hv]
    rw [if_neg (by omega)]
/-! ### the text of a text's time -/
theorem at_some {y m d h i s t : Int} (e : atO y m d h i s = some t) : AtOk y m d h i s ∧ t = atT y m d h i s := by
  unfold atO at e
  split at e
  · rename_i hk
    injection e with e
    exact ⟨hk, e.symm⟩
  · cases e
theorem at_is {y m d h i s : Nat} (hk : AtOk y m d h i s) : Cal.Is ((atT y m d h i s + 62167219200) / 86400) y m d ∧ ((h * 3600 + i * 60 + s : Nat) : Int) = (atT y m d h i s + 62167219200) % 86400 := by
  obtain ⟨k0, k1, k2, k3, k4, k5, k6, k7, k8, k9, k10, k11⟩ := hk
  have e : (atT y m d h i s + 62167219200) / 86400 = Cal.num y m d ∧ (atT y m d h i s + 62167219200) % 86400 = ((h * 3600 + i * 60 + s : Nat) : Int) := by
    unfold atT; omega
  exact ⟨⟨k0, k1, k2, k3, k4, k5, e.1.symm⟩, e.2.symm⟩
theorem tw_two {l : List UInt8} {k : Nat} (h : 0 ≤ tw l k) : ∃ n : Nat, tw l k = n ∧ n < 100 ∧ l.getD k 0 = Dig.dig (n / 10) ∧ l.getD (k + 1) 0 = Dig.dig n := by
  unfold tw at h ⊢
  split
  · rename_i hd
    unfold lb at hd ⊢
    refine ⟨((l.getD k 0).toNat - 48) * 10 + ((l.getD (k + 1) 0).toNat - 48), by omega, by omega, ?_, ?_⟩
    · exact (dig_of (by omega) (by omega)).symm
    · exact (dig_of (by omega) (by omega)).symm
  · rename_i hd; rw [if_neg hd] at h; omega
theorem list14 {l : List UInt8} (h : 14 ≤ l.length) : l = [l.getD 0 0, l.getD 1 0, l.getD 2 0, l.getD 3 0, l.getD 4 0, l.getD 5 0, l.getD 6 0, l.getD 7 0, l.getD 8 0, l.getD 9 0, l.getD 10 0, l.getD 11 0, l.getD 12 0, l.getD 13 0] ++ l.drop 14 := by
  match l, h with
  | _ :: _ :: _ :: _ :: _ :: _ :: _ :: _ :: _ :: _ :: _ :: _ :: _ :: _ :: r, _ => rfl
/-- A text that is a time's is that time's text. -/
theorem long_text {l : List UInt8} {t u : Int} (e : longO l = some (t, u)) : ∃ y m d s v : Nat, Cal.Is ((t + 62167219200) / 86400) y m d ∧ (s : Int) = (t + 62167219200) % 86400 ∧ u = v ∧ v ≤ 999999 ∧ l = Tm.long y m d s v := by
  unfold longO at e
  split at e
  · rename_i hf
    obtain ⟨⟨f0, f1, f2, f3, f4⟩, g0, g2⟩ := hf
    cases hm : momO (tw l 0 * 100 + tw l 2) l 4 with
    | none => rw [hm] at e; cases e
    | some t' =>
      rw [hm] at e
      simp only [Option.some.injEq, Prod.mk.injEq] at e
      obtain ⟨rfl, e⟩ := e
      obtain ⟨hk, ht⟩ := at_some hm
      have hk' := hk
      obtain ⟨k0, k1, k2, k3, k4, k5, k6, k7, k8, k9, k10, k11⟩ := hk
      obtain ⟨y0, ey0, ly0, b0, b1⟩ := tw_two g0
      obtain ⟨y2, ey2, ly2, b2, b3⟩ := tw_two g2
      obtain ⟨m, em, lm, b4, b5⟩ := tw_two (l := l) (k := 4) (by omega)
      obtain ⟨d, ed, ld, b6, b7⟩ := tw_two (l := l) (k := 4 + 2) (by omega)
      obtain ⟨h, eh, lh, b8, b9⟩ := tw_two (l := l) (k := 4 + 4) (by omega)
      obtain ⟨i, ei, li, b10, b11⟩ := tw_two (l := l) (k := 4 + 6) (by omega)
      obtain ⟨s, es, ls, b12, b13⟩ := tw_two (l := l) (k := 4 + 8) (by omega)
      have ey : (y0 : Int) * 100 + y2 = ((y0 * 100 + y2 : Nat) : Int) := by omega
      rw [ey0, ey2, em, ed, eh, ei, es, ey] at ht hk'
      obtain ⟨hi1, hi2⟩ := at_is hk'
      rw [← ht] at hi1 hi2
      rw [em] at k2 k3; rw [ed] at k4; rw [eh] at k6 k7; rw [ei] at k8 k9; rw [es] at k10 k11
      have a4 := Cal.dim_lo ((y0 * 100 + y2 : Nat) : Int) m
      have hd31 := hi1.d1
      have htxt : Tm.txt (y0 * 100 + y2) m d (h * 3600 + i * 60 + s) 4 = [l.getD 0 0, l.getD 1 0, l.getD 2 0, l.getD 3 0, l.getD 4 0, l.getD 5 0, l.getD 6 0, l.getD 7 0, l.getD 8 0, l.getD 9 0, l.getD 10 0, l.getD 11 0, l.getD 12 0, l.getD 13 0] := by
        rw [txt_eq (by omega) (by omega) (by omega) (by omega)]
        rw [show (h * 3600 + i * 60 + s) / 3600 = h by omega, show (h * 3600 + i * 60 + s) / 60 % 60 = i by omega, show (h * 3600 + i * 60 + s) % 60 = s by omega]
        rw [show l.getD 0 0 = Dig.dig (y0 / 10) from b0, show l.getD 1 0 = Dig.dig y0 from b1, show l.getD 2 0 = Dig.dig (y2 / 10) from b2, show l.getD 3 0 = Dig.dig y2 from b3, show l.getD 4 0 = Dig.dig (m / 10) from b4, show l.getD 5 0 = Dig.dig m from b5,
          show l.getD 6 0 = Dig.dig (d / 10) from b6, show l.getD 7 0 = Dig.dig d from b7, show l.getD 8 0 = Dig.dig (h / 10) from b8, show l.getD 9 0 = Dig.dig h from b9, show l.getD 10 0 = Dig.dig (i / 10) from b10, show l.getD 11 0 = Dig.dig i from b11,
          show l.getD 12 0 = Dig.dig (s / 10) from b12, show l.getD 13 0 = Dig.dig s from b13]
        have dd : ∀ a b : Nat, a % 10 = b % 10 → Dig.dig a = Dig.dig b := fun a b hab => by unfold Dig.dig; rw [hab]
        rw [dd ((y0 * 100 + y2) / 10 / 10 / 10) (y0 / 10) (by omega), dd ((y0 * 100 + y2) / 10 / 10) y0 (by omega), dd ((y0 * 100 + y2) / 10) (y2 / 10) (by omega), dd (y0 * 100 + y2) y2 (by omega)]
      have hl14 := list14 (l := l) (by omega)
      rw [← htxt] at hl14
      by_cases h15 : l.length = 15
      · refine ⟨y0 * 100 + y2, m, d, h * 3600 + i * 60 + s, 0, hi1, hi2, ?_, by omega, ?_⟩
        · rw [if_pos h15] at e; omega
        · rw [long_eq, if_pos rfl, List.nil_append]
          have hr : l.drop 14 = [90] := by
            have hlen : (l.drop 14).length = 1 := by rw [List.length_drop]; omega
            have hg : (l.drop 14).getD 0 0 = 90 := by
              rw [h15] at f3
              unfold lb at f3
              have : l.getD 14 0 = 90 := UInt8.toNat_inj.1 (by simpa using (show (l.getD (15 - 1) 0).toNat = 90 by omega))
              simpa [List.getD] using this
            match hq : l.drop 14, hlen with
            | [a], _ => rw [hq] at hg; simpa using hg
          rw [← hr]; exact hl14
      · obtain ⟨q0, q1, q2⟩ := f4 (by omega)
        rw [if_neg h15] at e
        have hfl : (frac l).length = 6 := by unfold frac; simp; omega
        obtain ⟨v1, v2⟩ := dgs_val6 hfl q2
        refine ⟨y0 * 100 + y2, m, d, h * 3600 + i * 60 + s, val (frac l), hi1, hi2, e.symm, by omega, ?_⟩
        obtain ⟨F, hF⟩ : ∃ F, F = (l.drop 15).take (l.length - 16) := ⟨_, rfl⟩
        have hFl : F.length = l.length - 16 := by rw [hF]; simp; omega
        -- the last one of F
        have hd15 : l.drop 15 = F ++ [90] := by
          have h1 : l.drop 15 = F ++ (l.drop 15).drop (l.length - 16) := by rw [hF, List.take_append_drop]
          rw [h1]
          congr 1
          rw [List.drop_drop, show 15 + (l.length - 16) = l.length - 1 by omega]
          have hlen : (l.drop (l.length - 1)).length = 1 := by rw [List.length_drop]; omega
          have hg : (l.drop (l.length - 1)).getD 0 0 = 90 := by
            unfold lb at f3
            have : l.getD (l.length - 1) 0 = 90 := UInt8.toNat_inj.1 (by simpa using (show (l.getD (l.length - 1) 0).toNat = 90 by omega))
            simpa [List.getD] using this
          match hq : l.drop (l.length - 1), hlen with
          | [a], _ => rw [hq] at hg; simpa using hg
        have hlast : ∃ p c, F = p ++ [c] ∧ c ≠ 48 := by
          rcases List.eq_nil_or_concat F with h0 | ⟨p, c, h0⟩
          · rw [h0] at hFl; simp at hFl; omega
          · rw [List.concat_eq_append] at h0
            refine ⟨p, c, h0, fun hc => q1 ?_⟩
            have hl2 : l = (l.take 15 ++ p) ++ [c] ++ [90] := by
              conv => lhs; rw [← List.take_append_drop 15 l, hd15, h0]
              simp
            have := lb_last2 (l.take 15 ++ p) c 90
            rw [← hl2] at this
            rw [this, hc]; rfl
        obtain ⟨p, c, hpc, hc⟩ := hlast
        have hst : Tm.rstrip (frac l) = F := by
          unfold frac
          rw [← hF, rstrip_noughts, hpc, Tm.rstrip_other _ _ hc]
        have hv0 : val (frac l) ≠ 0 := by
          intro e0
          have e1 : Dig.dgs 0 6 = frac l := by rw [← e0]; exact v2
          have e2 : Dig.dgs 0 6 = [] ++ List.replicate 6 48 := by decide +kernel
          rw [← e1, e2, rstrip_noughts, Tm.rstrip_nil] at hst
          rw [hpc] at hst
          simp at hst
        rw [long_eq, if_neg hv0, v2, hst]
        have hr : l.drop 14 = 46 :: (F ++ [90]) := by
          have h14 : 14 < l.length := by omega
          rw [List.drop_eq_getElem_cons h14, ← hd15]
          congr 1
          unfold lb at q0
          have : l.getD 14 0 = 46 := UInt8.toNat_inj.1 (by simpa using (show (l.getD 14 0).toNat = 46 by omega))
          simpa [List.getD, h14] using this
        rw [List.cons_append, ← hr]; exact hl14
  · cases e
theorem is_range {t y m d : Int} (h : Cal.Is ((t + 62167219200) / 86400) y m d) : -62167219200 ≤ t ∧ t ≤ 253402300799 := by
  have := h.range; omega
end Pr
end Go.Proofs.YtehdbceemdpbaaaDoor
