/- Folded texts in plain Lean: rune by rune (the program's way) and byte by byte (the reference's) are one. No condition: definitions and lemmas alone. -/
import Derived.Test.YtehdbceemdpbaaaDoorUtf
import Derived.Lib.MapLaws
import Derived.Lib.RuneBytes
namespace Go.Proofs.YtehdbceemdpbaaaDoor
namespace Fd
/-- A capital's small letter. -/
def low (c : UInt8) : UInt8 := if 65 ≤ c.toNat ∧ c.toNat ≤ 90 then c + 32 else c
/-- The reference's step: a byte behind what there is. -/
def stepR (out : List UInt8) (c : UInt8) : List UInt8 := if low c = 32 ∧ (out = [] ∨ out.getLast? = some 32) then out else out ++ [low c]
def trimR (out : List UInt8) : List UInt8 := if out.getLast? = some 32 then out.dropLast else out
def foldL (l : List UInt8) : List UInt8 := trimR (l.foldl stepR [])
/-- The folded text. -/
def fold (s : ByteArray) : ByteArray := if Utf.ok s then ⟨(foldL s.data.toList).toArray⟩ else s
/-- A rune's small letter. -/
def lowN (r : Int) : Int := if 65 ≤ r ∧ r ≤ 90 then r + 32 else r
/-- The program's step: a rune behind what there is, and whether a gap is open. -/
def stepP (st : List UInt8 × Bool) (r : Int) : List UInt8 × Bool :=
  if r = 32 then (st.1, decide (0 < st.1.length)) else ((if st.2 then st.1 ++ [32] else st.1) ++ Lib.encodeRune (lowN r), false)
/-- What the program has and what the reference has. -/
structure Rel (p : List UInt8) (gap : Bool) (r : List UInt8) : Prop where
  eq : r = if gap then p ++ [32] else p
  last : p.getLast? ≠ some 32
  ne : gap = true → p ≠ []
theorem Rel.start : Rel [] false [] := ⟨rfl, by simp, by simp⟩
theorem Rel.fin {p : List UInt8} {gap : Bool} {r : List UInt8} (h : Rel p gap r) : trimR r = p := by
  obtain ⟨rfl, hl, _⟩ := h
  cases gap
  · simp only [Bool.false_eq_true, if_false]; unfold trimR; rw [if_neg hl]
  · simp [trimR]
theorem low_ne (c : UInt8) (h : c ≠ 32) : low c ≠ 32 := by
  unfold low
  split
  · intro e
    have := congrArg UInt8.toNat e
    rw [UInt8.toNat_add] at this
    simp at this
    omega
  · exact h
theorem low_32 : low 32 = 32 := by decide
theorem Rel.blank {p : List UInt8} {gap : Bool} {r : List UInt8} (h : Rel p gap r) : Rel (stepP (p, gap) 32).1 (stepP (p, gap) 32).2 (stepR r 32) := by
  obtain ⟨rfl, hl, hn⟩ := h
  simp only [stepP, if_true]
  cases gap
  · cases p with
    | nil => simp only [Bool.false_eq_true, if_false, stepR, low_32]; exact ⟨rfl, by simp, by simp⟩
    | cons a p =>
      have e : stepR (a :: p) 32 = (a :: p) ++ [32] := by
        unfold stepR; rw [low_32, if_neg]
        rintro ⟨_, h | h⟩
        · cases h
        · exact hl h
      simp only [Bool.false_eq_true, if_false, e]
      exact ⟨by simp, hl, by simp⟩
  · have e : stepR (p ++ [32]) 32 = p ++ [32] := by unfold stepR; rw [low_32, if_pos ⟨rfl, .inr (by simp)⟩]
    have hp := hn rfl
    have hd : decide (0 < p.length) = true := by
      simp only [decide_eq_true_eq]; exact List.length_pos_iff.2 hp
    simp only [if_true, e, hd]
    exact ⟨by simp, hl, fun _ => hp⟩
/-- A character that is no blank: its bytes in the reference, its rune in the program. -/
theorem Rel.other {p : List UInt8} {gap : Bool} {r : List UInt8} (h : Rel p gap r) (bs cs : List UInt8) (hbs : ∀ b ∈ bs, b ≠ 32) (hne : bs ≠ []) (hcs : cs = bs.map low) :
    Rel ((if gap then p ++ [32] else p) ++ cs) false (bs.foldl stepR r) := by
  obtain ⟨rfl, hl, hn⟩ := h
  have key : ∀ (bs : List UInt8) (r : List UInt8), (∀ b ∈ bs, b ≠ 32) → bs.foldl stepR r = r ++ bs.map low := by
    intro bs
    induction bs with
    | nil => intro r _; simp
    | cons b bs ih =>
      intro r hb
      have h1 : stepR r b = r ++ [low b] := by
        unfold stepR; rw [if_neg]
        rintro ⟨h, _⟩
        exact low_ne b (hb b (by simp)) h
      rw [List.foldl_cons, h1, ih _ (fun c hc => hb c (by simp [hc]))]
      simp
  refine ⟨?_, ?_, by simp⟩
  · rw [key bs _ hbs, hcs]; simp
  · subst hcs
    have hne' : bs.map low ≠ [] := by simpa using hne
    rw [List.getLast?_append]
    intro e
    have e2 : (bs.map low).getLast? = some ((bs.map low).getLast hne') := List.getLast?_eq_some_getLast hne'
    rw [e2] at e
    simp only [Option.some_or, Option.some.injEq] at e
    obtain ⟨b, hb, he⟩ := List.mem_map.1 (List.getLast_mem hne')
    exact low_ne b (hbs b hb) (he.trans e)
/-- A character's bytes, a blank or not, ASCII or not. -/
theorem dec_ascii {s : ByteArray} {pos : Nat} (h : pos < s.size) (hr : (Utf8.decode s pos).1 < 128) : s[pos].toNat = (Utf8.decode s pos).1 ∧ (Utf8.decode s pos).2 = 1 := by
  by_cases ha : (s[pos]'h).toNat < 128
  · rw [decode_ascii s pos h ha]; exact ⟨rfl, rfl⟩
  · have := (decode_high s pos h (by omega)).1; omega
theorem decodeL_drop (s : ByteArray) (pos : Nat) : Lib.decodeL (s.data.toList.drop pos) = Utf8.decode s pos := by
  rw [← Utf.decode_extract s pos]
  unfold Lib.decodeL
  congr 1
  obtain ⟨⟨l⟩⟩ := s
  rw [ByteArray.extract_mk, List.take_of_length_le (by rw [List.length_drop]; exact Nat.le_refl _)]
theorem encode_at {s : ByteArray} {pos : Nat} (h : pos < s.size) (hv : Utf8.decode s pos ≠ (65533, 1)) :
    Lib.encodeRune ((Utf8.decode s pos).1 : Int) = (s.data.toList.drop pos).take (Utf8.decode s pos).2 := by
  have hl : pos < s.data.toList.length := h
  have := Lib.encode_decode (s.data.toList.drop pos) (by simp; exact h) (by
    rw [decodeL_drop]
    rintro ⟨a, b⟩
    exact hv (Prod.ext a b))
  rw [decodeL_drop] at this
  exact this
theorem encode_high {r : Int} (h : 128 ≤ r) : ∀ c ∈ Lib.encodeRune r, 128 ≤ c.toNat := by
  intro c hc
  unfold Lib.encodeRune at hc
  obtain ⟨x, hx, rfl⟩ := List.mem_map.1 hc
  have hb := Lib.encodeRuneZ_byte r x hx
  have h128 : 128 ≤ x := by
    unfold Lib.encodeRuneZ at hx
    rw [if_neg (by omega)] at hx
    repeat' split at hx
    all_goals (simp at hx; omega)
  have : x.toNat.toUInt8.toNat = x.toNat := by
    show (UInt8.ofNat x.toNat).toNat = _
    rw [UInt8.toNat_ofNat']; omega
  rw [this]; omega
theorem low_high (c : UInt8) (h : 128 ≤ c.toNat) : low c = c := by unfold low; rw [if_neg (by omega)]
theorem lowN_high (r : Int) (h : 128 ≤ r) : lowN r = r := by unfold lowN; rw [if_neg (by omega)]
theorem encode_low {b : UInt8} (h : b.toNat < 128) : Lib.encodeRune (lowN (b.toNat : Int)) = [low b] := by
  have hz : 0 ≤ lowN (b.toNat : Int) ∧ lowN (b.toNat : Int) ≤ 127 := by unfold lowN; split <;> omega
  unfold Lib.encodeRune
  rw [Lib.encodeRuneZ_one hz.1 hz.2]
  simp only [List.map_cons, List.map_nil]
  congr 1
  unfold lowN low
  apply UInt8.toNat_inj.1
  show (UInt8.ofNat _).toNat = _
  rw [UInt8.toNat_ofNat']
  by_cases c : 65 ≤ b.toNat ∧ b.toNat ≤ 90
  · rw [if_pos c, if_pos (by omega), UInt8.toNat_add]; simp; omega
  · rw [if_neg c, if_neg (by omega)]; omega
/-- One character more. -/
theorem Rel.next {s : ByteArray} {pos : Nat} {p : List UInt8} {gap : Bool} {r : List UInt8} (h : Rel p gap r) (hlt : pos < s.size) (hv : Utf8.decode s pos ≠ (65533, 1)) :
    Rel (stepP (p, gap) ((Utf8.decode s pos).1 : Int)).1 (stepP (p, gap) ((Utf8.decode s pos).1 : Int)).2 (((s.data.toList.drop pos).take (Utf8.decode s pos).2).foldl stepR r) := by
  have hl : pos < s.data.toList.length := hlt
  by_cases ha : (Utf8.decode s pos).1 < 128
  · obtain ⟨hb, hw⟩ := dec_ascii hlt ha
    have e1 : (s.data.toList.drop pos).take (Utf8.decode s pos).2 = [s[pos]] := by
      rw [hw, List.drop_eq_getElem_cons hl]; rfl
    rw [e1, ← hb]
    by_cases h32 : s[pos] = 32
    · rw [h32]; exact h.blank
    · have hn : ((s[pos].toNat : Nat) : Int) ≠ 32 := by
        intro e
        apply h32
        apply UInt8.toNat_inj.1
        simp; omega
      have := h.other [s[pos]] [low s[pos]] (by simpa using h32) (by simp) rfl
      simp only [stepP, if_neg hn]
      rw [encode_low (by omega)]
      exact this
  · have hn : ((Utf8.decode s pos).1 : Int) ≠ 32 := by omega
    have he := encode_at hlt hv
    simp only [stepP, if_neg hn]
    rw [lowN_high _ (by omega), he]
    have hh : ∀ b ∈ (s.data.toList.drop pos).take (Utf8.decode s pos).2, 128 ≤ b.toNat := by
      rw [← he]; exact encode_high (by omega)
    have hw : 1 ≤ (Utf8.decode s pos).2 := by
      by_cases hx : (s[pos]'hlt).toNat < 128
      · rw [decode_ascii s pos hlt hx]; exact Nat.le_refl _
      · exact (decode_high s pos hlt (by omega)).2
    refine h.other _ _ (fun b hb e => ?_) ?_ ?_
    · have := hh b hb; subst e; exact absurd this (by decide)
    · intro e
      have := congrArg List.length e
      simp at this
      omega
    · rw [List.map_congr_left (g := id) (fun b hb => low_high b (hh b hb))]; simp
/-- What the program has when it has read up to a place; what is left. -/
structure Inv (s : ByteArray) (pos : Nat) (p : List UInt8) (gap : Bool) : Prop where
  rel : Rel p gap ((s.data.toList.take pos).foldl stepR [])
  len : p.length ≤ 2 * pos
theorem Inv.start (s : ByteArray) : Inv s 0 [] false := ⟨by simpa using Rel.start, by simp⟩
theorem take_add (l : List UInt8) (a b : Nat) : l.take (a + b) = l.take a ++ (l.drop a).take b := List.take_add
theorem Inv.step {s : ByteArray} {pos : Nat} {p : List UInt8} {gap : Bool} (h : Inv s pos p gap) (hlt : pos < s.size) (hv : Utf8.decode s pos ≠ (65533, 1)) :
    Rel (stepP (p, gap) ((Utf8.decode s pos).1 : Int)).1 (stepP (p, gap) ((Utf8.decode s pos).1 : Int)).2 ((s.data.toList.take (pos + (Utf8.decode s pos).2)).foldl stepR []) := by
  rw [take_add, List.foldl_append]
  exact h.rel.next hlt hv
theorem Inv.fin {s : ByteArray} {pos : Nat} {p : List UInt8} {gap : Bool} (h : Inv s pos p gap) (hp : s.size ≤ pos) : foldL s.data.toList = p := by
  have e : s.data.toList.take pos = s.data.toList := List.take_of_length_le hp
  have := h.rel.fin
  rw [e] at this
  exact this
/-- A folded text is no longer than twice the text (a bound that is wide enough). -/
theorem foldl_length (l : List UInt8) (out : List UInt8) : (l.foldl stepR out).length ≤ out.length + l.length := by
  induction l generalizing out with
  | nil => simp
  | cons c l ih =>
    have h1 : (stepR out c).length ≤ out.length + 1 := by unfold stepR; split <;> simp
    have := ih (stepR out c)
    simp only [List.foldl_cons, List.length_cons]
    omega
theorem Rel.le {p : List UInt8} {gap : Bool} {r : List UInt8} (h : Rel p gap r) : p.length ≤ r.length := by
  obtain ⟨rfl, _, _⟩ := h
  cases gap <;> simp
theorem Inv.mk' {s : ByteArray} {pos : Nat} {p : List UInt8} {gap : Bool} (h : Rel p gap ((s.data.toList.take pos).foldl stepR [])) : Inv s pos p gap := by
  refine ⟨h, ?_⟩
  have h1 := h.le
  have h2 := foldl_length (s.data.toList.take pos) []
  have h3 : (s.data.toList.take pos).length ≤ pos := List.length_take_le _ _
  simp only [List.length_nil] at h2
  omega
end Fd
end Go.Proofs.YtehdbceemdpbaaaDoor
