/- Object identifiers' bytes read back, in plain Lean: the bytes' numbers, their text, and that texts and bytes go there and back. No condition: definitions and lemmas alone. -/
import Derived.Test.YtehdbceemdpbaaaDoorOid
import Derived.Test.YtehdbceemdpbaaaDoorDig
namespace Go.Proofs.YtehdbceemdpbaaaDoor
namespace Od
def textTail : List Nat → List UInt8
  | [] => []
  | n :: l => 46 :: (Dig.dgs n 1 ++ textTail l)
/-- The first number of a text, of the first number of the bytes. -/
def fst2 (g : Nat) : Nat := if g / 40 < 2 then g / 40 else 2
def textOf : List Nat → List UInt8
  | [] => []
  | g :: l => Dig.dgs (fst2 g) 1 ++ 46 :: (Dig.dgs (g - 40 * fst2 g) 1 ++ textTail l)
theorem textTail_app (a b : List Nat) : textTail (a ++ b) = textTail a ++ textTail b := by
  induction a with
  | nil => rfl
  | cons n a ih => simp [textTail, ih]
theorem textOf_snoc {l : List Nat} (h : l ≠ []) (g : Nat) : textOf (l ++ [g]) = textOf l ++ 46 :: Dig.dgs g 1 := by
  cases l with
  | nil => exact absurd rfl h
  | cons a l => simp [textOf, textTail_app, textTail]
/-- The bytes' numbers; what has been read of the number at hand comes first. -/
def dec : Nat → List UInt8 → Option (List Nat)
  | n, [] => if n = 0 then some [] else none
  | n, c :: l => if (n = 0 ∧ c.toNat = 128) ∨ 72057594037927935 < n then none
    else if 128 ≤ c.toNat then dec (n * 128 + c.toNat % 128) l else match dec 0 l with
      | some r => some ((n * 128 + c.toNat % 128) :: r)
      | none => none
def decO (b : List UInt8) : Option (List UInt8) := match dec 0 b with
  | some (g :: gs) => some (textOf (g :: gs))
  | _ => none
theorem dec_bad {n : Nat} {c : UInt8} {l : List UInt8} (h : (n = 0 ∧ c.toNat = 128) ∨ 72057594037927935 < n) : dec n (c :: l) = none := by
  unfold dec; rw [if_pos h]
theorem dec_more {n : Nat} {c : UInt8} {l : List UInt8} (h : ¬ ((n = 0 ∧ c.toNat = 128) ∨ 72057594037927935 < n)) (hc : 128 ≤ c.toNat) : dec n (c :: l) = dec (n * 128 + c.toNat % 128) l := by
  conv => lhs; unfold dec
  rw [if_neg h, if_pos hc]
theorem dec_last {n : Nat} {c : UInt8} {l : List UInt8} (h : ¬ ((n = 0 ∧ c.toNat = 128) ∨ 72057594037927935 < n)) (hc : c.toNat < 128) : dec n (c :: l) = match dec 0 l with
    | some r => some ((n * 128 + c.toNat % 128) :: r)
    | none => none := by
  conv => lhs; unfold dec
  rw [if_neg h, if_neg (by omega)]
theorem hi_zero (f : Nat) : hiF f 0 = [] := by cases f <;> simp [hiF]
theorem hi_fuel : ∀ (f g m : Nat), m < 128 ^ f → m < 128 ^ g → hiF f m = hiF g m
  | 0, g, m, h, _ => by
    have : m = 0 := by simpa using h
    subst this; rw [hi_zero, hi_zero]
  | f + 1, 0, m, _, h => by
    have : m = 0 := by simpa using h
    subst this; rw [hi_zero, hi_zero]
  | f + 1, g + 1, m, hf, hg => by
    unfold hiF
    by_cases h0 : m = 0
    · rw [if_pos h0, if_pos h0]
    · rw [if_neg h0, if_neg h0, hi_fuel f g (m / 128) (by rw [Nat.pow_succ] at hf; omega) (by rw [Nat.pow_succ] at hg; omega)]
theorem byte_of {c : UInt8} {n : Nat} (h : n = c.toNat) : UInt8.ofNat n = c := by
  subst h; simp
theorem hi_step {n : Nat} {c : UInt8} (h : ¬ ((n = 0 ∧ c.toNat = 128) ∨ 72057594037927935 < n)) (hc : 128 ≤ c.toNat) : hiF 10 (n * 128 + c.toNat % 128) = hiF 10 n ++ [c] := by
  have hlt := c.toNat_lt
  have hm : n * 128 + c.toNat % 128 ≠ 0 := by omega
  have e1 : (n * 128 + c.toNat % 128) / 128 = n := by omega
  have e2 : (n * 128 + c.toNat % 128) % 128 + 128 = c.toNat := by omega
  have e3 : hiF 9 n = hiF 10 n := hi_fuel 9 10 n (by omega) (by omega)
  conv => lhs; unfold hiF
  rw [if_neg hm, e1, e2, e3, byte_of rfl]
theorem b128_step {n : Nat} {c : UInt8} (hc : c.toNat < 128) : b128 (n * 128 + c.toNat % 128) = hiF 10 n ++ [c] := by
  have e1 : (n * 128 + c.toNat % 128) / 128 = n := by omega
  have e2 : (n * 128 + c.toNat % 128) % 128 = c.toNat := by omega
  unfold b128
  rw [e1, e2, byte_of rfl]
/-- What is read is what was written. -/
theorem dec_sound : ∀ (l : List UInt8) (n : Nat) (gs : List Nat), n < top → dec n l = some gs → hiF 10 n ++ l = gs.flatMap b128 ∧ ∀ g ∈ gs, g < top
  | [], n, gs, _, h => by
    unfold dec at h
    split at h
    · rename_i h0
      injection h with h
      subst h h0
      simp [hi_zero]
    · cases h
  | c :: l, n, gs, hn, h => by
    have hlt := c.toNat_lt
    by_cases hb : (n = 0 ∧ c.toNat = 128) ∨ 72057594037927935 < n
    · rw [dec_bad hb] at h; cases h
    · by_cases hc : 128 ≤ c.toNat
      · rw [dec_more hb hc] at h
        obtain ⟨h1, h2⟩ := dec_sound l _ gs (by unfold top; omega) h
        rw [hi_step hb hc] at h1
        exact ⟨by rw [← h1]; simp, h2⟩
      · rw [dec_last hb (by omega)] at h
        cases hd : dec 0 l with
        | none => rw [hd] at h; cases h
        | some r =>
          rw [hd] at h
          simp only [Option.some.injEq] at h
          subst h
          obtain ⟨h1, h2⟩ := dec_sound l 0 r (by decide) hd
          rw [hi_zero, List.nil_append] at h1
          refine ⟨?_, fun g hg => ?_⟩
          · rw [List.flatMap_cons, b128_step (by omega), ← h1]; simp
          · rcases List.mem_cons.1 hg with rfl | hg
            · unfold top; omega
            · exact h2 g hg
theorem dec_hi : ∀ (f m : Nat) (l : List UInt8), m < 128 ^ f → m < top → dec 0 (hiF f m ++ l) = dec m l
  | 0, m, l, h, _ => by
    have : m = 0 := by simpa using h
    subst this; rfl
  | f + 1, m, l, h, ht => by
    by_cases h0 : m = 0
    · subst h0; rw [hi_zero]; rfl
    · have e : hiF (f + 1) m = hiF f (m / 128) ++ [UInt8.ofNat (m % 128 + 128)] := by
        conv => lhs; unfold hiF
        rw [if_neg h0]
      have hc : (UInt8.ofNat (m % 128 + 128)).toNat = m % 128 + 128 := by rw [UInt8.toNat_ofNat']; omega
      unfold top at ht
      rw [e, List.append_assoc, dec_hi f (m / 128) _ (by rw [Nat.pow_succ] at h; omega) (by unfold top; omega)]
      show dec (m / 128) (UInt8.ofNat (m % 128 + 128) :: l) = _
      rw [dec_more (by rw [hc]; omega) (by rw [hc]; omega), hc]
      congr 1; omega
theorem dec_b128 (g : Nat) (l : List UInt8) (h : g < top) : dec 0 (b128 g ++ l) = match dec 0 l with
    | some r => some (g :: r)
    | none => none := by
  have hc : (UInt8.ofNat (g % 128)).toNat = g % 128 := by rw [UInt8.toNat_ofNat']; omega
  unfold top at h
  unfold b128
  rw [List.append_assoc, dec_hi 10 (g / 128) _ (by omega) (by unfold top; omega)]
  show dec (g / 128) (UInt8.ofNat (g % 128) :: l) = _
  rw [dec_last (by rw [hc]; omega) (by rw [hc]; omega), hc]
  have e : g / 128 * 128 + g % 128 % 128 = g := by omega
  rw [e]
theorem dec_complete : ∀ (gs : List Nat), (∀ g ∈ gs, g < top) → dec 0 (gs.flatMap b128) = some gs
  | [], _ => rfl
  | g :: gs, h => by
    rw [List.flatMap_cons, dec_b128 g _ (h g (by simp)), dec_complete gs (fun x hx => h x (by simp [hx]))]
/-! ### digits of ten and their worth -/
theorem val_dgsF : ∀ (f n k : Nat), n < 10 ^ f → k ≤ f → val (Dig.dgsF f n k) = n
  | 0, n, k, h, _ => by
    have : n = 0 := by simpa using h
    subst this; rfl
  | f + 1, n, k, h, hk => by
    by_cases hh : n = 0 ∧ k = 0
    · rw [Dig.dgsF_stop _ _ _ hh, hh.1]; rfl
    · rw [Dig.dgsF_step _ _ _ hh, val_snoc, val_dgsF f _ _ (Dig.pow_step h) (by omega), Dig.dig_toNat]; omega
theorem dgsF_head : ∀ (f n : Nat), n < 10 ^ f → n ≠ 0 → ∃ c l, Dig.dgsF f n 0 = c :: l ∧ c ≠ 48
  | 0, n, h, h0 => by
    have : n = 0 := by simpa using h
    exact absurd this h0
  | f + 1, n, h, h0 => by
    rw [Dig.dgsF_step _ _ _ (by omega)]
    by_cases h1 : n / 10 = 0
    · rw [h1, Dig.dgsF_stop _ _ _ ⟨rfl, rfl⟩]
      refine ⟨_, _, rfl, fun e => ?_⟩
      have := congrArg UInt8.toNat e
      rw [Dig.dig_toNat] at this
      have e2 : (48 : UInt8).toNat = 48 := rfl
      omega
    · obtain ⟨c, l, e, hc⟩ := dgsF_head f (n / 10) (Dig.pow_step h) h1
      exact ⟨c, l ++ [Dig.dig n], by rw [show 0 - 1 = 0 from rfl, e]; rfl, hc⟩
theorem dgs_pos {n : Nat} (h : n ≠ 0) : Dig.dgs n 1 = Dig.dgsF 20 n 0 := by
  unfold Dig.dgs
  rw [Dig.dgsF_step 19 n 1 (by omega), Dig.dgsF_step 19 n 0 (by omega)]
theorem dgs_zero : Dig.dgs 0 1 = [48] := by decide +kernel
theorem dgs_digs {n : Nat} (h : n < top) : (Dig.dgs n 1).all isDig = true := by
  unfold top at h
  have := (Dig.dgs_all n 1 (by omega) (by omega)).2
  rw [List.all_eq_true]
  intro c hc
  simpa [isDig] using this c hc
theorem numL_dgs {n : Nat} (h : n < top) : numL (Dig.dgs n 1) = some n := by
  have hd := dgs_digs h
  unfold top at h
  have hv : val (Dig.dgs n 1) = n := val_dgsF 20 n 1 (by omega) (by omega)
  have key := fun h0 => numL_ok (l := Dig.dgs n 1) h0 hd (by rw [hv]; exact h)
  rw [hv] at key
  refine key ?_
  by_cases h0 : n = 0
  · subst h0; rw [dgs_zero]; simp
  · rw [dgs_pos h0]
    obtain ⟨c, l, e, hc⟩ := dgsF_head 20 n (by omega) h0
    rw [e]
    simp [hc]
theorem val_head {c : UInt8} {l : List UInt8} : c.toNat - 48 ≤ val (c :: l) := by
  show _ ≤ l.foldl _ (0 * 10 + (c.toNat - 48))
  rw [Nat.zero_mul, Nat.zero_add]; exact foldl_mono _ _
theorem dgsF_val : ∀ (n f : Nat) (p : List UInt8), p.length = n → n ≤ f → p.all isDig = true → p.head? ≠ some 48 → Dig.dgsF f (val p) 0 = p
  | 0, f, p, hl, _, _, _ => by
    have : p = [] := List.eq_nil_of_length_eq_zero hl
    subst this
    rw [val_nil, Dig.dgsF_stop _ _ _ ⟨rfl, rfl⟩]
  | n + 1, 0, p, _, hf, _, _ => by omega
  | n + 1, f + 1, p, hl, hf, hd, hh => by
    have hne : val p ≠ 0 := by
      match p, hl with
      | c :: l, _ =>
        have h1 := val_head (c := c) (l := l)
        have h2 : isDig c = true := by simp only [List.all_cons, Bool.and_eq_true] at hd; exact hd.1
        have h3 : 48 ≤ c.toNat ∧ c.toNat ≤ 57 := by simpa [isDig] using h2
        have h4 : c.toNat ≠ 48 := by
          intro e
          apply hh
          have : c = 48 := UInt8.toNat_inj.1 (by rw [e]; rfl)
          simp [this]
        omega
    rcases List.eq_nil_or_concat p with h0 | ⟨q, c, h0⟩
    · subst h0; cases hl
    · rw [List.concat_eq_append] at h0
      subst h0
      rw [List.all_append, Bool.and_eq_true] at hd
      have h3 : 48 ≤ c.toNat ∧ c.toNat ≤ 57 := by simpa [isDig] using hd.2
      have e1 : val (q ++ [c]) / 10 = val q := by rw [val_snoc]; omega
      have e2 : Dig.dig (val (q ++ [c])) = c := by
        apply UInt8.toNat_inj.1
        rw [Dig.dig_toNat, val_snoc]; omega
      have hq : q.head? ≠ some 48 := by
        cases q with
        | nil => simp
        | cons x q => simpa using hh
      rw [Dig.dgsF_step _ _ _ (by omega), e1, e2, dgsF_val n f q (by simpa using hl) (by omega) hd.1 hq]
theorem dgsF_fuel : ∀ (f g n : Nat), n < 10 ^ f → n < 10 ^ g → Dig.dgsF f n 0 = Dig.dgsF g n 0
  | 0, g, n, h, _ => by
    have : n = 0 := by simpa using h
    subst this; rw [Dig.dgsF_stop _ _ _ ⟨rfl, rfl⟩, Dig.dgsF_stop _ _ _ ⟨rfl, rfl⟩]
  | f + 1, 0, n, _, h => by
    have : n = 0 := by simpa using h
    subst this; rw [Dig.dgsF_stop _ _ _ ⟨rfl, rfl⟩, Dig.dgsF_stop _ _ _ ⟨rfl, rfl⟩]
  | f + 1, g + 1, n, hf, hg => by
    by_cases h0 : n = 0
    · rw [Dig.dgsF_stop _ _ _ ⟨h0, rfl⟩, Dig.dgsF_stop _ _ _ ⟨h0, rfl⟩]
    · rw [Dig.dgsF_step _ _ _ (by omega), Dig.dgsF_step _ _ _ (by omega), dgsF_fuel f g (n / 10) (Dig.pow_step hf) (Dig.pow_step hg)]
theorem numL_back {p : List UInt8} {n : Nat} (h : numL p = some n) : p = Dig.dgs n 1 ∧ n < top := by
  unfold numL at h
  split at h
  · cases h
  · rename_i hn
    split at h
    · rename_i hd
      split at h
      · rename_i hv
        injection h with h
        subst h
        refine ⟨?_, hv⟩
        by_cases h48 : p.head? = some 48
        · have h1 : p.length ≤ 1 := by
            rcases Nat.lt_or_ge 1 p.length with h1 | h1
            · exact absurd (.inr ⟨h1, h48⟩) hn
            · exact h1
          match p, h48, h1 with
          | [c], h48, _ =>
            simp at h48; subst h48
            rw [show val [48] = 0 from by decide, dgs_zero]
        · have hp := dgsF_val _ p.length p rfl (Nat.le_refl _) hd h48
          have hlt := val_lt p hd
          have h0 : val p ≠ 0 := by
            intro e
            rw [e, Dig.dgsF_stop _ _ _ ⟨rfl, rfl⟩] at hp
            exact hn (.inl hp.symm)
          unfold top at hv
          rw [dgs_pos h0, dgsF_fuel 20 p.length _ (by omega) hlt, hp]
      · cases h
    · cases h
/-! ### a text's parts -/
def join : List (List UInt8) → List UInt8
  | [] => []
  | [p] => p
  | p :: ps => p ++ 46 :: join ps
theorem join_cons (p : List UInt8) {ps : List (List UInt8)} (h : ps ≠ []) : join (p :: ps) = p ++ 46 :: join ps := by
  cases ps with
  | nil => exact absurd rfl h
  | cons q ps => rfl
theorem join_parts (s : List UInt8) : join (parts 46 s) = s := by
  induction s with
  | nil => rfl
  | cons b s ih =>
    unfold parts
    by_cases hb : b = 46
    · rw [if_pos hb, join_cons _ (parts_ne 46 s), ih, hb]; rfl
    · rw [if_neg hb]
      cases hp : parts 46 s with
      | nil => exact absurd hp (parts_ne 46 s)
      | cons q qs =>
        rw [hp] at ih
        cases qs with
        | nil => simp only [join] at ih ⊢; rw [ih]
        | cons r rs => simp only [join] at ih ⊢; rw [← ih]; rfl
theorem parts_join : ∀ (ps : List (List UInt8)), ps ≠ [] → (∀ p ∈ ps, ∀ b ∈ p, b ≠ 46) → parts 46 (join ps) = ps
  | [], h, _ => absurd rfl h
  | [p], _, h => parts_none (h p (by simp))
  | p :: q :: ps, _, h => by
    rw [join_cons _ (by simp), parts_cut (h p (by simp)), parts_join (q :: ps) (by simp) (fun x hx => h x (by simp [hx]))]
theorem dgs_dot {n : Nat} (h : n < top) : ∀ b ∈ Dig.dgs n 1, b ≠ 46 := by
  intro b hb e
  have := List.all_eq_true.1 (dgs_digs h) b hb
  subst e
  revert this; decide
theorem tail_join (a : List UInt8) (l : List Nat) : a ++ textTail l = join (a :: l.map (Dig.dgs · 1)) := by
  induction l generalizing a with
  | nil => simp [textTail, join]
  | cons n l ih =>
    rw [List.map_cons, join_cons _ (by simp), ← ih]; rfl
/-- The numbers of a text, of the numbers of the bytes. -/
def two : List Nat → List Nat
  | [] => []
  | g :: l => fst2 g :: (g - 40 * fst2 g) :: l
theorem textOf_join (g : Nat) (l : List Nat) : textOf (g :: l) = join ((two (g :: l)).map (Dig.dgs · 1)) := by
  show Dig.dgs (fst2 g) 1 ++ 46 :: (Dig.dgs (g - 40 * fst2 g) 1 ++ textTail l) = _
  rw [tail_join]; rfl
theorem two_top {g : Nat} {l : List Nat} (h : ∀ x ∈ g :: l, x < top) : ∀ x ∈ two (g :: l), x < top := by
  intro x hx
  have hg := h g (by simp)
  unfold two at hx
  rcases List.mem_cons.1 hx with rfl | hx
  · unfold fst2 top; split <;> omega
  · rcases List.mem_cons.1 hx with rfl | hx
    · omega
    · exact h x (by simp [hx])
theorem two_ok {g : Nat} {l : List Nat} (h : g < top) : oidOk (two (g :: l)) = true := by
  unfold top at h
  simp only [oidOk, two, top, decide_eq_true_eq, List.length_cons, List.getD_cons_zero, List.getD_cons_succ]
  unfold fst2
  split <;> omega
theorem two_bytes (g : Nat) (l : List Nat) : bytesOf (two (g :: l)) = (g :: l).flatMap b128 := by
  have e : 40 * fst2 g + (g - 40 * fst2 g) = g := by unfold fst2; split <;> omega
  simp only [bytesOf, two, List.getD_cons_zero, List.getD_cons_succ, e, List.drop_succ_cons, List.drop_zero, List.flatMap_cons]
theorem numsOf_dgs : ∀ (l : List Nat), (∀ x ∈ l, x < top) → numsOf (l.map (Dig.dgs · 1)) = some l
  | [], _ => rfl
  | n :: l, h => by
    rw [List.map_cons]
    unfold numsOf
    rw [numL_dgs (h n (by simp)), numsOf_dgs l (fun x hx => h x (by simp [hx]))]
/-- A text's bytes are those that it was read of. -/
theorem enc_textOf {g : Nat} {l : List Nat} (h : ∀ x ∈ g :: l, x < top) : enc (textOf (g :: l)) = some ((g :: l).flatMap b128) := by
  have ht := two_top h
  have e : parts 46 (textOf (g :: l)) = (two (g :: l)).map (Dig.dgs · 1) := by
    rw [textOf_join]
    refine parts_join _ (by simp [two]) (fun p hp b hb => ?_)
    obtain ⟨x, hx, rfl⟩ := List.mem_map.1 hp
    exact dgs_dot (ht x hx) b hb
  unfold enc
  rw [e, numsOf_dgs _ ht]
  simp only [two_ok (h g (by simp)), if_true, two_bytes]
theorem numsOf_back : ∀ (ps : List (List UInt8)) (l : List Nat), numsOf ps = some l → ps = l.map (Dig.dgs · 1) ∧ ∀ x ∈ l, x < top
  | [], l, h => by
    simp [numsOf] at h; subst h; simp
  | p :: ps, l, h => by
    unfold numsOf at h
    cases hp : numL p with
    | none => rw [hp] at h; simp at h
    | some n =>
      rw [hp] at h
      cases hq : numsOf ps with
      | none => rw [hq] at h; simp at h
      | some ns =>
        rw [hq] at h
        simp only [Option.some.injEq] at h
        subst h
        obtain ⟨h1, h2⟩ := numsOf_back ps ns hq
        obtain ⟨h3, h4⟩ := numL_back hp
        refine ⟨by rw [List.map_cons, ← h1, ← h3], fun x hx => ?_⟩
        rcases List.mem_cons.1 hx with rfl | hx
        · exact h4
        · exact h2 x hx
/-- The text of a text's bytes is the text. -/
theorem decO_enc {s b : List UInt8} (h : enc s = some b) : decO b = some s := by
  unfold enc at h
  cases hn : numsOf (parts 46 s) with
  | none => rw [hn] at h; cases h
  | some l =>
    rw [hn] at h
    replace h : (if oidOk l = true then some (bytesOf l) else none) = some b := h
    cases hok : oidOk l with
    | false => rw [hok] at h; cases h
    | true =>
      rw [hok] at h
      simp only [if_true, Option.some.injEq] at h
      subst h
      obtain ⟨h1, h2⟩ := numsOf_back _ _ hn
      match l, hok, h1, h2 with
      | [], hok, _, _ => simp [oidOk] at hok
      | [a], hok, _, _ => simp [oidOk] at hok
      | a :: c :: l, hok, h1, h2 =>
        simp only [oidOk, top, decide_eq_true_eq, List.length_cons, List.getD_cons_zero, List.getD_cons_succ] at hok
        have e1 : fst2 (40 * a + c) = a := by unfold fst2; split <;> omega
        have e2 : two ((40 * a + c) :: l) = a :: c :: l := by
          show fst2 (40 * a + c) :: (40 * a + c - 40 * fst2 (40 * a + c)) :: l = _
          rw [e1, show 40 * a + c - 40 * a = c by omega]
        have ht : ∀ x ∈ (40 * a + c) :: l, x < top := by
          intro x hx
          rcases List.mem_cons.1 hx with rfl | hx
          · unfold top; omega
          · exact h2 x (by simp [hx])
        have e3 : bytesOf (a :: c :: l) = ((40 * a + c) :: l).flatMap b128 := by rw [← e2, two_bytes]
        unfold decO
        rw [e3, dec_complete _ ht]
        simp only [textOf_join, e2, ← h1, join_parts]
theorem decO_some {b t : List UInt8} (h : decO b = some t) : ∃ g gs, dec 0 b = some (g :: gs) ∧ t = textOf (g :: gs) := by
  unfold decO at h
  cases hd : dec 0 b with
  | none => rw [hd] at h; cases h
  | some r =>
    rw [hd] at h
    cases r with
    | nil => cases h
    | cons g gs => injection h with h; exact ⟨g, gs, rfl, h.symm⟩
/-- The bytes of the bytes' text are the bytes. -/
theorem enc_decO {b t : List UInt8} (h : decO b = some t) : enc t = some b := by
  obtain ⟨g, gs, hd, rfl⟩ := decO_some h
  obtain ⟨h1, h2⟩ := dec_sound b 0 _ (by decide) hd
  rw [hi_zero, List.nil_append] at h1
  rw [enc_textOf h2, ← h1]
end Od
end Go.Proofs.YtehdbceemdpbaaaDoor
