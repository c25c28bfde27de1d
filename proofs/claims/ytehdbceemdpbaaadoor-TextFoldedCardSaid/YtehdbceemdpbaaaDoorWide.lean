/- Folded texts in plain Lean: folding twice is folding once; capitals and blanks more are of no matter. No condition: definitions and lemmas alone. -/
import Derived.Test.YtehdbceemdpbaaaDoorFoldR
import Derived.Lib.ValidLaws
namespace Go.Proofs.YtehdbceemdpbaaaDoor
namespace Fd
theorem low_low (c : UInt8) : low (low c) = low c := by
  by_cases h : 65 ≤ c.toNat ∧ c.toNat ≤ 90
  · have := low_cap h
    exact low_id (by omega)
  · rw [low_id (c := c) (by omega), low_id (by omega)]
theorem stepR_like (r : List UInt8) {c d : UInt8} (h : low d = low c) : stepR r d = stepR r c := by unfold stepR; rw [h]
/-- Each beginning of it folds to itself. -/
def Cl (r : List UInt8) : Prop := ∀ k, (r.take k).foldl stepR [] = r.take k
theorem Cl.all {r : List UInt8} (h : Cl r) : r.foldl stepR [] = r := by
  have := h r.length
  rwa [List.take_length] at this
theorem Cl.step {r : List UInt8} (h : Cl r) (c : UInt8) : Cl (stepR r c) := by
  unfold stepR
  split
  · exact h
  · rename_i hn
    intro k
    by_cases hk : k ≤ r.length
    · rw [List.take_append_of_le_length hk]; exact h k
    · rw [List.take_of_length_le (by simp; omega), List.foldl_append, h.all]
      show stepR r (low c) = _
      rw [stepR_like r (low_low c)]
      unfold stepR
      rw [if_neg hn]
theorem cl_foldl (l : List UInt8) : ∀ r, Cl r → Cl (l.foldl stepR r) := by
  induction l with
  | nil => intro r h; exact h
  | cons c l ih => intro r h; exact ih _ (h.step c)
theorem Cl.trim {r : List UInt8} (h : Cl r) : foldL (trimR r) = trimR r := by
  by_cases hl : r.getLast? = some 32
  · have e : trimR r = r.dropLast := by unfold trimR; rw [if_pos hl]
    have hr : r = r.dropLast ++ [32] := by
      rcases List.eq_nil_or_concat r with h0 | ⟨p, x, h0⟩
      · subst h0; simp at hl
      · subst h0
        rw [List.concat_eq_append] at hl ⊢
        simp at hl ⊢; exact hl
    have e1 : r.dropLast.foldl stepR [] = r.dropLast := by rw [List.dropLast_eq_take]; exact h _
    have e2 := h.all
    rw [hr, List.foldl_append, e1] at e2
    rw [e]
    unfold foldL
    rw [e1]
    unfold trimR
    rw [if_neg]
    intro h32
    have e3 : stepR r.dropLast 32 = r.dropLast := stepR_gap h32
    have e4 : stepR r.dropLast 32 = r.dropLast ++ [32] := e2
    rw [e3] at e4
    have := congrArg List.length e4
    simp at this
  · have e : trimR r = r := by unfold trimR; rw [if_neg hl]
    rw [e]
    unfold foldL
    rw [h.all, e]
theorem foldL_twice (l : List UInt8) : foldL (foldL l) = foldL l := (cl_foldl l [] (fun k => by simp)).trim
/-- To fold twice is to fold once. -/
theorem fold_twice (s : ByteArray) : fold (fold s) = fold s := by
  by_cases hok : Utf.ok s = true
  · have e : fold s = ⟨(foldL s.data.toList).toArray⟩ := by unfold fold; rw [if_pos hok]
    rw [e]
    unfold fold
    split
    · simp only [foldL_twice]
    · rfl
  · have e : fold s = s := by unfold fold; rw [if_neg hok]
    rw [e, e]
/-- A byte and the same, perhaps a capital. -/
def Tog (c d : UInt8) : Prop := d = c ∨ (97 ≤ c.toNat ∧ c.toNat ≤ 122 ∧ d.toNat = c.toNat - 32)
theorem Tog.low {c d : UInt8} (h : Tog c d) : low d = low c := by
  rcases h with rfl | ⟨h1, h2, h3⟩
  · rfl
  · rw [low_id (c := c) (by omega)]
    apply UInt8.toNat_inj.1
    rw [low_cap (by omega)]; omega
/-- A text and the same with capitals and blanks more. -/
inductive Wd : List UInt8 → List UInt8 → Prop
  | nil : Wd [] []
  | other {c d : UInt8} {l w : List UInt8} : c ≠ 32 → Tog c d → Wd l w → Wd (c :: l) (d :: w)
  | blank (n : Nat) {l w : List UInt8} : Wd l w → Wd (32 :: l) (List.replicate (n + 1) 32 ++ w)
theorem Wd.app {a b c d : List UInt8} (h : Wd a b) (k : Wd c d) : Wd (a ++ c) (b ++ d) := by
  induction h with
  | nil => exact k
  | other h1 h2 _ ih => exact .other h1 h2 ih
  | blank n _ ih => rw [List.append_assoc]; exact .blank n ih
theorem Wd.one {c d : UInt8} (h1 : c ≠ 32) (h2 : Tog c d) : Wd [c] [d] := .other h1 h2 .nil
theorem Wd.blanks (n : Nat) : Wd [32] (List.replicate (n + 1) 32) := by
  have := Wd.blank n Wd.nil
  rwa [List.append_nil] at this
theorem stepR_32 (r : List UInt8) : stepR (stepR r 32) 32 = stepR r 32 := by
  by_cases h : r = [] ∨ r.getLast? = some 32
  · have e : stepR r 32 = r := by
      rcases h with h | h
      · rw [h, stepR_nil]
      · exact stepR_gap h
    rw [e, e]
  · have h1 : r ≠ [] := fun e => h (.inl e)
    have h2 : r.getLast? ≠ some 32 := fun e => h (.inr e)
    rw [stepR_blank h1 h2, stepR_gap (by simp)]
theorem stepR_blanks (n : Nat) (r : List UInt8) : (List.replicate (n + 1) 32).foldl stepR r = stepR r 32 := by
  induction n generalizing r with
  | zero => rfl
  | succ n ih =>
    rw [List.replicate_succ, List.foldl_cons, ih, stepR_32]
theorem Wd.fold {l w : List UInt8} (h : Wd l w) : ∀ r, w.foldl stepR r = l.foldl stepR r := by
  induction h with
  | nil => intro r; rfl
  | other h1 h2 _ ih => intro r; rw [List.foldl_cons, List.foldl_cons, ih, stepR_like r h2.low]
  | blank n _ ih => intro r; rw [List.foldl_append, stepR_blanks, ih, List.foldl_cons]
theorem trim_32 (r : List UInt8) : trimR (stepR r 32) = trimR r := by
  by_cases h : r = [] ∨ r.getLast? = some 32
  · have e : stepR r 32 = r := by
      rcases h with h | h
      · rw [h, stepR_nil]
      · exact stepR_gap h
    rw [e]
  · have h1 : r ≠ [] := fun e => h (.inl e)
    have h2 : r.getLast? ≠ some 32 := fun e => h (.inr e)
    rw [stepR_blank h1 h2]
    unfold trimR
    rw [if_neg h2, if_pos (by simp), List.dropLast_concat]
theorem foldL_wide {l w : List UInt8} (h : Wd l w) : foldL (32 :: w ++ [32, 32]) = foldL l := by
  unfold foldL
  rw [List.cons_append, List.foldl_cons, stepR_nil, List.foldl_append, h.fold]
  show trimR (stepR (stepR _ 32) 32) = _
  rw [stepR_32, trim_32]
/-! ### whether no byte is broken -/
set_option maxHeartbeats 2000000 in
theorem decodeN_same (n m b0 b1 b2 b3 c1 c2 c3 K : Nat) (hK : (Lib.decodeN n b0 b1 b2 b3).2 = K) (hv : Lib.decodeN n b0 b1 b2 b3 ≠ (65533, 1)) (hm : K ≤ m)
    (e1 : 1 < K → c1 = b1) (e2 : 2 < K → c2 = b2) (e3 : 3 < K → c3 = b3) : Lib.decodeN m b0 c1 c2 c3 = Lib.decodeN n b0 b1 b2 b3 := by
  unfold Lib.decodeN at hK hv ⊢
  by_cases d0 : b0 < 128
  · rw [if_pos d0, if_pos d0]
  · rw [if_neg d0] at hK hv
    rw [if_neg d0, if_neg d0]
    by_cases d1 : b0 / 32 = 6 ∧ (1 < n ∧ b1 / 64 = 2)
    · rw [if_pos d1] at hK hv
      rw [if_pos d1]
      by_cases g : b0 % 32 * 64 + b1 % 64 ≥ 128
      · rw [if_pos g] at hK
        simp only at hK
        obtain rfl := e1 (by omega)
        rw [if_pos ⟨d1.1, by omega, d1.2.2⟩]
      · rw [if_neg g] at hv; exact absurd rfl hv
    · rw [if_neg d1] at hK hv
      rw [if_neg d1]
      by_cases d2 : b0 / 16 = 14 ∧ (1 < n ∧ b1 / 64 = 2) ∧ (2 < n ∧ b2 / 64 = 2)
      · rw [if_pos d2] at hK hv
        rw [if_pos d2]
        split at hK
        · simp only at hK
          obtain rfl := e1 (by omega)
          obtain rfl := e2 (by omega)
          rw [if_neg (by omega), if_pos ⟨d2.1, ⟨by omega, d2.2.1.2⟩, by omega, d2.2.2.2⟩]
        · rename_i g; rw [if_neg g] at hv; exact absurd rfl hv
      · rw [if_neg d2] at hK hv
        rw [if_neg d2]
        by_cases d3 : b0 / 8 = 30 ∧ (1 < n ∧ b1 / 64 = 2) ∧ (2 < n ∧ b2 / 64 = 2) ∧ (3 < n ∧ b3 / 64 = 2)
        · rw [if_pos d3] at hK hv
          rw [if_pos d3]
          split at hK
          · simp only at hK
            obtain rfl := e1 (by omega)
            obtain rfl := e2 (by omega)
            obtain rfl := e3 (by omega)
            rw [if_neg (by omega), if_neg (by omega), if_pos ⟨d3.1, ⟨by omega, d3.2.1.2⟩, ⟨by omega, d3.2.2.1.2⟩, by omega, d3.2.2.2.2⟩]
          · rename_i g; rw [if_neg g] at hv; exact absurd rfl hv
        · rw [if_neg d3] at hv; exact absurd rfl hv
theorem take_getD {l w : List UInt8} {n : Nat} (h : w.take n = l.take n) {i : Nat} (hi : i < n) : w.getD i 0 = l.getD i 0 := by
  have : (w.take n)[i]? = (l.take n)[i]? := by rw [h]
  rw [List.getElem?_take, List.getElem?_take, if_pos hi, if_pos hi] at this
  simp [List.getD, this]
theorem decodeL_same {l w : List UInt8} (hn : (Lib.decodeL l).2 ≤ w.length) (h : w.take (Lib.decodeL l).2 = l.take (Lib.decodeL l).2) (hv : Lib.decodeL l ≠ (65533, 1)) : Lib.decodeL w = Lib.decodeL l := by
  have hw := Lib.decodeL_width l
  obtain ⟨K, hK⟩ : ∃ K, K = (Lib.decodeL l).2 := ⟨_, rfl⟩
  rw [← hK] at hn h hw
  rw [Lib.decodeL_N] at hK hv
  rw [Lib.decodeL_N w, Lib.decodeL_N l, take_getD h (show 0 < K by omega)]
  exact decodeN_same _ _ _ _ _ _ _ _ _ K hK.symm hv hn (fun h1 => by rw [take_getD h h1]) (fun h1 => by rw [take_getD h h1]) (fun h1 => by rw [take_getD h h1])
theorem ok_valid (s : ByteArray) : ∀ (f pos : Nat), s.size ≤ pos + f → Utf.okFrom s f pos = Lib.validD (s.data.toList.drop pos)
  | 0, pos, h => by
    have : s.data.toList.drop pos = [] := List.drop_eq_nil_of_le (by have : s.size = s.data.toList.length := Lib.size_eq s; omega)
    rw [this]; rfl
  | f + 1, pos, h => by
    have hs : s.size = s.data.toList.length := Lib.size_eq s
    by_cases hp : pos < s.size
    · have hne : s.data.toList.drop pos ≠ [] := by
        intro h0
        have := congrArg List.length h0
        rw [List.length_drop] at this
        simp at this; omega
      have hw := width_pos s pos hp
      rw [Lib.validD_step _ hne, Lib.decodeL_drop, List.drop_drop]
      unfold Utf.okFrom
      rw [if_pos hp]
      by_cases hv : Utf8.decode s pos = (65533, 1)
      · rw [if_pos hv, if_pos (by rw [hv]; exact ⟨rfl, rfl⟩)]
      · rw [if_neg hv, if_neg (fun e => hv (Prod.ext e.1 e.2)), ok_valid s f _ (by omega)]
    · have : s.data.toList.drop pos = [] := List.drop_eq_nil_of_le (by omega)
      rw [this, Utf.okFrom_end s _ _ hp]; rfl
theorem ok_list (l : List UInt8) : Utf.ok ⟨l.toArray⟩ = Lib.validD l := by
  unfold Utf.ok
  rw [ok_valid _ _ _ (by omega)]; simp
theorem ok_bytes (s : ByteArray) : Utf.ok s = Lib.validD s.data.toList := by
  unfold Utf.ok
  rw [ok_valid _ _ _ (by omega)]; simp
theorem high_chars {c : UInt8} {l : List UInt8} (hc : 128 ≤ c.toNat) (hv : Lib.decodeL (c :: l) ≠ (65533, 1)) : ∀ b ∈ (c :: l).take (Lib.decodeL (c :: l)).2, 128 ≤ b.toNat := by
  have he := Lib.encode_decode (c :: l) (by simp) (fun e => hv (Prod.ext e.1 e.2))
  rw [← he]
  have h1 := (decode_high ⟨(c :: l).toArray⟩ 0 (by simp [ByteArray.size]) hc).1
  have e : Utf8.decode ⟨(c :: l).toArray⟩ 0 = Lib.decodeL (c :: l) := by
    have := Lib.decodeL_drop ⟨(c :: l).toArray⟩ 0
    simpa using this.symm
  rw [e] at h1
  exact encode_high (by omega)
theorem Wd.high {l w : List UInt8} (h : Wd l w) : ∀ n, n ≤ l.length → (∀ b ∈ l.take n, 128 ≤ b.toNat) → w.take n = l.take n ∧ n ≤ w.length ∧ Wd (l.drop n) (w.drop n) := by
  induction h with
  | nil => intro n hn _; simp at hn; subst hn; exact ⟨rfl, Nat.zero_le _, .nil⟩
  | @other c d l w h1 h2 h3 ih =>
    intro n hn ha
    match n with
    | 0 => exact ⟨rfl, Nat.zero_le _, .other h1 h2 h3⟩
    | n + 1 =>
      have hc : 128 ≤ c.toNat := ha c (by simp)
      have hd : d = c := by
        rcases h2 with h2 | ⟨_, h2, _⟩
        · exact h2
        · omega
      subst hd
      obtain ⟨i1, i2, i3⟩ := ih n (by simpa using hn) (fun b hb => ha b (by simp [hb]))
      exact ⟨by simp [i1], by simp; exact i2, by simpa using i3⟩
  | @blank k l w h ih =>
    intro n hn ha
    match n with
    | 0 => exact ⟨rfl, Nat.zero_le _, .blank k h⟩
    | n + 1 =>
      have : 128 ≤ (32 : UInt8).toNat := ha 32 (by simp)
      exact absurd this (by decide)
theorem Wd.valid : ∀ (n : Nat) {l w : List UInt8}, l.length ≤ n → Wd l w → Lib.validD l = true → Lib.validD w = true
  | 0, l, w, hl, h, _ => by
    have : l = [] := List.eq_nil_of_length_eq_zero (by omega)
    subst this
    cases h; rfl
  | n + 1, l, w, hl, h, hv => by
    have h' := h
    cases h with
    | nil => rfl
    | @blank k l w h =>
      rw [Lib.validD_cons _ _ (by decide)] at hv
      rw [Lib.validD_ascii (k + 1) _ (fun b hb => by
        rw [List.take_append_of_le_length (by simp)] at hb
        have := List.eq_of_mem_replicate (List.mem_of_mem_take hb)
        subst this; decide)]
      have e : (List.replicate (k + 1) (32 : UInt8) ++ w).drop (k + 1) = w := List.drop_left' (by simp)
      rw [e]
      exact Wd.valid n (by simp at hl; omega) h hv
    | @other c d l w h1 h2 h =>
      by_cases hc : c.toNat < 128
      · have hd : d.toNat < 128 := by
          rcases h2 with rfl | ⟨_, _, h2⟩ <;> omega
        rw [Lib.validD_cons _ _ hc] at hv
        rw [Lib.validD_cons _ _ hd]
        exact Wd.valid n (by simp at hl; omega) h hv
      · have hvv : Lib.decodeL (c :: l) ≠ (65533, 1) := by
          intro e
          rw [Lib.validD_step _ (by simp), e, if_pos ⟨rfl, rfl⟩] at hv
          cases hv
        have hw := Lib.decodeL_width (c :: l)
        have hle := Lib.decodeL_le (c :: l) (by simp)
        obtain ⟨i1, i2, i3⟩ := h'.high _ hle (high_chars (by omega) hvv)
        have e := decodeL_same i2 i1 hvv
        rw [Lib.validD_step _ (by simp), if_neg (fun e => hvv (Prod.ext e.1 e.2))] at hv
        rw [Lib.validD_step _ (by simp), e, if_neg (fun e => hvv (Prod.ext e.1 e.2))]
        exact Wd.valid n (by rw [List.length_drop]; simp at hl ⊢; omega) i3 hv
theorem valid_app : ∀ (n : Nat) {l r : List UInt8}, l.length ≤ n → Lib.validD l = true → Lib.validD r = true → Lib.validD (l ++ r) = true
  | 0, l, r, hl, _, h => by
    have : l = [] := List.eq_nil_of_length_eq_zero (by omega)
    subst this
    exact h
  | n + 1, l, r, hl, hv, h => by
    by_cases hne : l = []
    · subst hne; exact h
    · have hvv : Lib.decodeL l ≠ (65533, 1) := by
        intro e
        rw [Lib.validD_step _ hne, e, if_pos ⟨rfl, rfl⟩] at hv
        cases hv
      have hw := Lib.decodeL_width l
      have hle := Lib.decodeL_le l hne
      have e := decodeL_same (w := l ++ r) (by simp; omega) (List.take_append_of_le_length hle) hvv
      rw [Lib.validD_step _ hne, if_neg (fun e => hvv (Prod.ext e.1 e.2))] at hv
      rw [Lib.validD_step _ (by simp [hne]), e, if_neg (fun e => hvv (Prod.ext e.1 e.2)), List.drop_append_of_le_length hle]
      exact valid_app n (by rw [List.length_drop]; omega) hv h
/-- The text with capitals and blanks more folds to the same. -/
theorem fold_wide {s : ByteArray} {w : List UInt8} (hok : Utf.ok s = true) (h : Wd s.data.toList w) : fold ⟨(32 :: w ++ [32, 32]).toArray⟩ = fold s := by
  have h2 : Utf.ok ⟨(32 :: w ++ [32, 32]).toArray⟩ = true := by
    rw [ok_list, List.cons_append, Lib.validD_cons _ _ (by decide)]
    exact valid_app _ (Nat.le_refl _) (Wd.valid _ (Nat.le_refl _) h (by rw [← ok_bytes]; exact hok)) (by decide +kernel)
  have e1 : fold ⟨(32 :: w ++ [32, 32]).toArray⟩ = ⟨(foldL (32 :: w ++ [32, 32])).toArray⟩ := by unfold fold; rw [if_pos h2]
  have e2 : fold s = ⟨(foldL s.data.toList).toArray⟩ := by unfold fold; rw [if_pos hok]
  rw [e1, e2, foldL_wide h]
end Fd
end Go.Proofs.YtehdbceemdpbaaaDoor
