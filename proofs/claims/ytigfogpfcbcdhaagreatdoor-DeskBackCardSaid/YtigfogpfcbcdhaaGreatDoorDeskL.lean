/- Lines and texts in plain Lean: the text as a fold over the form's letters; the pieces between blanks; a reader of pieces finds the line whose text it is. -/
import Derived.Test.YtigfogpfcbcdhaaGreatDoorDeskP
set_option linter.unusedVariables false
set_option linter.unusedSimpArgs false
namespace Go.Proofs.YtigfogpfcbcdhaaGreatDoor
namespace Dk
open Go.Lib
/-! ### pieces between blanks -/
def split : Bs → List Bs
  | [] => [[]]
  | c :: l => if c = 32 then [] :: split l else match split l with
    | [] => [[c]]
    | w :: ws => (c :: w) :: ws
def join (ws : List Bs) : Bs := ws.flatMap (32 :: ·)
theorem split_ne (l : Bs) : split l ≠ [] := by
  cases l with
  | nil => simp [split]
  | cons c l =>
    unfold split
    split
    · simp
    · split <;> simp
theorem split_plain {w : Bs} (h : (32 : UInt8) ∉ w) (r : Bs) : split (w ++ 32 :: r) = w :: split r := by
  induction w with
  | nil => simp [split]
  | cons c w ih =>
    rw [List.mem_cons, not_or] at h
    rw [List.cons_append, split, if_neg (Ne.symm h.1), ih h.2]
theorem split_last {w : Bs} (h : (32 : UInt8) ∉ w) : split w = [w] := by
  induction w with
  | nil => rfl
  | cons c w ih =>
    rw [List.mem_cons, not_or] at h
    rw [split, if_neg (Ne.symm h.1), ih h.2]
theorem split_join : ∀ (w : Bs) (ws : List Bs), (32 : UInt8) ∉ w → (∀ x ∈ ws, (32 : UInt8) ∉ x) → split (w ++ join ws) = w :: ws
  | w, [], h, _ => by simp [join, split_last h]
  | w, x :: ws, h, hs => by
    have : w ++ join (x :: ws) = w ++ 32 :: (x ++ join ws) := by simp [join]
    rw [this, split_plain h, split_join x ws (hs x (by simp)) (fun y hy => hs y (by simp [hy]))]
theorem index_blank (l : Bs) : (index l [32] = -1 ∧ (32 : UInt8) ∉ l) ∨ ∃ i : Nat, index l [32] = i ∧ i < l.length ∧ (32 : UInt8) ∉ l.take i ∧ l.drop i = 32 :: l.drop (i + 1) := by
  induction l with
  | nil => left; simp [index]
  | cons b l ih =>
    by_cases hb : b = 32
    · subst hb; right; exact ⟨0, by simp [index], by simp, by simp, rfl⟩
    · have hp : ([32] : Bs).isPrefixOf (b :: l) = false := by simp [List.isPrefixOf, Ne.symm hb]
      rcases ih with ⟨h1, h2⟩ | ⟨i, h1, h2, h3, h4⟩
      · left; exact ⟨by rw [index, hp, h1]; rfl, by simp [h2, Ne.symm hb]⟩
      · right
        refine ⟨i + 1, ?_, by simp [h2], by simp [h3, Ne.symm hb], h4⟩
        rw [index, hp, h1]
        have : ((i : Int) == -1) = false := by simp
        simp [this]
/-- strings.Cut at a blank, by the pieces. -/
theorem cut_blank (l : Bs) : (cut l [32] = (l, [], false) ∧ split l = [l]) ∨ ∃ w r : Bs, cut l [32] = (w, r, true) ∧ split l = w :: split r ∧ l = w ++ 32 :: r := by
  rcases index_blank l with ⟨h1, h2⟩ | ⟨i, h1, h2, h3, h4⟩
  · left
    exact ⟨by unfold cut; rw [h1]; rfl, split_last h2⟩
  · right
    have e : l = l.take i ++ 32 :: l.drop (i + 1) := by rw [← h4, List.take_append_drop]
    refine ⟨l.take i, l.drop (i + 1), ?_, ?_, e⟩
    · unfold cut; rw [h1, if_pos (by omega)]; simp
    · conv => lhs; rw [e]
      exact split_plain h3 _
/-! ### a line's text -/
structure Ln where
  word : Bs
  nums : List Int
  bytes : List Bs
def okNum (c : UInt8) (n : Int) : Bool := if c = 107 then decide (0 ≤ n ∧ n ≤ 9) else if c = 114 then decide (0 ≤ n ∧ n ≤ 15) else true
abbrev TSt := Bs × List Int × List Bs
/-- One letter of a form: what it takes of the line, and what it adds to the text. -/
def step (st : Option TSt) (c : UInt8) : Option TSt :=
  match st with
  | none => none
  | some (out, ns, bs) =>
    if c = 104 then match bs with
      | [] => none
      | b :: bs => some (out ++ 32 :: hexT b, ns, bs)
    else if c = 42 then if bs.length ≤ 20 then some (out ++ join (bs.map hexT), ns, []) else none
    else match ns with
      | [] => none
      | n :: ns => if okNum c n then some (out ++ 32 :: itoa n, ns, bs) else none
def fin (st : Option TSt) : Option Bs :=
  match st with
  | some (out, [], []) => some out
  | _ => none
def txt (l : Ln) : Option Bs :=
  match formL l.word with
  | none => none
  | some f => fin (f.foldl step (some (l.word, l.nums, l.bytes)))
theorem step_none (f : Bs) : f.foldl step none = none := by
  induction f with
  | nil => rfl
  | cons c f ih => exact ih
/-! ### reading the pieces -/
abbrev PSt := List Int × List Bs × List Bs × Bool
/-- One letter of a form: what it takes of the pieces. ub, nb: what a piece is as bytes, as a number; gb, gn: whether it is one. -/
def pstep (ub : Bs → Bs) (nb : Bs → Int) (gb gn : Bs → Bool) (st : PSt) (c : UInt8) : PSt :=
  match st with
  | (ns, bs, [], ok) => (ns, bs, [], ok)
  | (ns, bs, x :: ws, ok) =>
    if c = 104 then (ns, bs ++ [ub x], ws, ok && gb x)
    else if c = 42 then (ns, bs ++ (x :: ws).map ub, [], ok && (x :: ws).all gb)
    else (ns ++ [nb x], bs, ws, ok && gn x)
/-- The letter '*' stands last alone. -/
def starEnd : Bs → Bool
  | [] => true
  | c :: f => (c != 42 || f.isEmpty) && starEnd f
theorem form_star {w f : Bs} (h : formL w = some f) : starEnd f = true := form_all (p := fun _ f => starEnd f) (by decide +kernel) h
/-- A reader that knows a hex text and a decimal one. -/
structure Reader (ub : Bs → Bs) (nb : Bs → Int) (gb gn : Bs → Bool) : Prop where
  ub : ∀ b, ub (hexT b) = b
  gb : ∀ b, gb (hexT b) = true
  nb : ∀ n : Int, -9223372036854775808 ≤ n → n ≤ 9223372036854775807 → nb (itoa n) = n
  gn : ∀ n : Int, -9223372036854775808 ≤ n → n ≤ 9223372036854775807 → gn (itoa n) = true
def In64 (ns : List Int) : Prop := ∀ n ∈ ns, -9223372036854775808 ≤ n ∧ n ≤ 9223372036854775807
theorem fin_some {st : Option TSt} {t : Bs} (h : fin st = some t) : st = some (t, [], []) := by
  unfold fin at h
  split at h
  · injection h with h; subst h; rfl
  · cases h
theorem reads_back : ∀ (f : Bs) (out : Bs) (ns : List Int) (bs : List Bs) (t : Bs), starEnd f = true → In64 ns → f.foldl step (some (out, ns, bs)) = some (t, [], []) →
    ∃ ws : List Bs, t = out ++ join ws ∧ (∀ x ∈ ws, (32 : UInt8) ∉ x) ∧
      ∀ (ub : Bs → Bs) (nb : Bs → Int) (gb gn : Bs → Bool), Reader ub nb gb gn → ∀ (ns0 : List Int) (bs0 : List Bs), f.foldl (pstep ub nb gb gn) (ns0, bs0, ws, true) = (ns0 ++ ns, bs0 ++ bs, [], true)
  | [], out, ns, bs, t, _, _, h => by
    rw [List.foldl_nil] at h
    injection h with h
    injection h with h1 h2
    injection h2 with h2 h3
    subst h1 h2 h3
    exact ⟨[], by simp [join], by simp, fun _ _ _ _ _ ns0 bs0 => by simp⟩
  | c :: f, out, ns, bs, t, hs, hi, h => by
    rw [starEnd, Bool.and_eq_true] at hs
    rw [List.foldl_cons] at h
    generalize hst : step (some (out, ns, bs)) c = st at h
    unfold step at hst
    simp only at hst
    by_cases h1 : c = 104
    · rw [if_pos h1] at hst
      cases bs with
      | nil => subst hst; rw [step_none] at h; cases h
      | cons b bs =>
        simp only at hst
        subst hst
        obtain ⟨ws, e, hp, hr⟩ := reads_back f _ ns bs t hs.2 hi h
        refine ⟨hexT b :: ws, by rw [e]; simp [join], ?_, ?_⟩
        · intro x hx
          rw [List.mem_cons] at hx
          rcases hx with rfl | hx
          · exact (hexT_plain b).1
          · exact hp x hx
        · intro ub nb gb gn R ns0 bs0
          rw [List.foldl_cons, show pstep ub nb gb gn (ns0, bs0, hexT b :: ws, true) c = (ns0, bs0 ++ [b], ws, true) by unfold pstep; simp only; rw [if_pos h1, R.ub, R.gb]; rfl, hr ub nb gb gn R]
          simp
    · rw [if_neg h1] at hst
      by_cases h2 : c = 42
      · rw [if_pos h2] at hst
        have hf : f = [] := by
          have := hs.1
          rw [h2] at this
          simpa using this
        subst hf
        rw [List.foldl_nil] at h
        subst h
        split at hst
        · injection hst with h
          injection h with h3 h4
          injection h4 with h4 _
          subst h3 h4
          refine ⟨bs.map hexT, rfl, ?_, ?_⟩
          · intro x hx
            rw [List.mem_map] at hx
            obtain ⟨b, _, rfl⟩ := hx
            exact (hexT_plain b).1
          · intro ub nb gb gn R ns0 bs0
            rw [List.foldl_cons, List.foldl_nil]
            unfold pstep
            cases bs with
            | nil => simp
            | cons b bs =>
              simp only [List.map_cons]
              rw [if_neg h1, if_pos h2]
              have hm : ∀ l : List Bs, (l.map hexT).map ub = l := fun l => by rw [List.map_map]; exact (List.map_congr_left (fun x _ => R.ub x)).trans (List.map_id _)
              have ha : ∀ l : List Bs, (l.map hexT).all gb = true := fun l => by rw [List.all_eq_true]; intro x hx; rw [List.mem_map] at hx; obtain ⟨b, _, rfl⟩ := hx; exact R.gb b
              have h5 := hm (b :: bs)
              have h6 := ha (b :: bs)
              rw [List.map_cons] at h5 h6
              rw [List.map_cons] at h5
              rw [h5, h6]
              simp
        · cases hst
      · rw [if_neg h2] at hst
        cases ns with
        | nil => subst hst; rw [step_none] at h; cases h
        | cons n ns =>
          simp only at hst
          split at hst
          · subst hst
            obtain ⟨ws, e, hp, hr⟩ := reads_back f _ ns bs t hs.2 (fun x hx => hi x (by simp [hx])) h
            have hn := hi n (by simp)
            refine ⟨itoa n :: ws, by rw [e]; simp [join], ?_, ?_⟩
            · intro x hx
              rw [List.mem_cons] at hx
              rcases hx with rfl | hx
              · exact (itoa_plain n).1
              · exact hp x hx
            · intro ub nb gb gn R ns0 bs0
              rw [List.foldl_cons, show pstep ub nb gb gn (ns0, bs0, itoa n :: ws, true) c = (ns0 ++ [n], bs0, ws, true) by unfold pstep; simp only; rw [if_neg h1, if_neg h2, R.nb n hn.1 hn.2, R.gn n hn.1 hn.2]; rfl, hr ub nb gb gn R]
              simp
          · subst hst; rw [step_none] at h; cases h
/-- What a reader makes of a text's pieces: the line, what is left of the pieces, and whether all were some. -/
def readL (ub : Bs → Bs) (nb : Bs → Int) (gb gn : Bs → Bool) (f : Bs) (ws : List Bs) : PSt := f.foldl (pstep ub nb gb gn) ([], [], ws, true)
/-- Whoever reads a line's text finds the line. -/
theorem read_txt {ub : Bs → Bs} {nb : Bs → Int} {gb gn : Bs → Bool} (R : Reader ub nb gb gn) {l : Ln} {s : Bs} (hi : In64 l.nums) (h : txt l = some s) :
    ∃ (f : Bs) (ws : List Bs), formL l.word = some f ∧ split s = l.word :: ws ∧ readL ub nb gb gn f ws = (l.nums, l.bytes, [], true) := by
  unfold txt at h
  split at h
  · cases h
  · rename_i f hf
    obtain ⟨ws, e, hp, hr⟩ := reads_back f _ _ _ s (form_star hf) hi (fin_some h)
    exact ⟨f, ws, hf, by rw [e]; exact split_join _ _ (word_plain hf).1 hp, by unfold readL; rw [hr ub nb gb gn R]; simp⟩
/-- The desk's reader. -/
def ubD (x : Bs) : Bs := (unhex x).getD []
def gbD (x : Bs) : Bool := (unhex x).isSome
def nbD (x : Bs) : Int := match parseIntB 64 x with | .ok v => v | .range => intSat 64 x | _ => 0
def gnD (x : Bs) : Bool := match parseIntB 64 x with | .ok _ => true | _ => false
theorem readerD : Reader ubD nbD gbD gnD :=
  ⟨fun b => by unfold ubD; rw [unhex_hexT]; rfl, fun b => by unfold gbD; rw [unhex_hexT]; rfl, fun n h0 h1 => by unfold nbD; rw [parse_itoa h0 h1], fun n h0 h1 => by unfold gnD; rw [parse_itoa h0 h1]⟩
def Num64 (nb : Bs → Int) : Prop := ∀ x, -9223372036854775808 ≤ nb x ∧ nb x ≤ 9223372036854775807
theorem pstep_in64 {ub : Bs → Bs} {nb : Bs → Int} {gb gn : Bs → Bool} (hn : Num64 nb) (st : PSt) (c : UInt8) (h : In64 st.1) : In64 (pstep ub nb gb gn st c).1 := by
  obtain ⟨ns, bs, ws, ok⟩ := st
  cases ws with
  | nil => exact h
  | cons x ws =>
    unfold pstep
    simp only
    split
    · exact h
    · split
      · exact h
      · intro n hm
        simp only [List.mem_append, List.mem_singleton] at hm
        rcases hm with hm | rfl
        · exact h n hm
        · exact hn x
theorem pfold_in64 {ub : Bs → Bs} {nb : Bs → Int} {gb gn : Bs → Bool} (hn : Num64 nb) (f : Bs) : ∀ st : PSt, In64 st.1 → In64 (f.foldl (pstep ub nb gb gn) st).1 := by
  induction f with
  | nil => intro st h; exact h
  | cons c f ih => intro st h; exact ih _ (pstep_in64 hn st c h)
theorem read_in64 {ub : Bs → Bs} {nb : Bs → Int} {gb gn : Bs → Bool} (hn : Num64 nb) (f : Bs) (ws : List Bs) : In64 (readL ub nb gb gn f ws).1 := pfold_in64 hn f _ (by intro n hm; cases hm)
theorem sat_range (l : Bs) : -9223372036854775808 ≤ intSat 64 l ∧ intSat 64 l ≤ 9223372036854775807 := by
  unfold intSat; split <;> decide
theorem parse_range {l : Bs} {v : Int} (h : parseIntB 64 l = .ok v) : -9223372036854775808 ≤ v ∧ v ≤ 9223372036854775807 := by
  unfold parseIntB at h
  split at h
  · cases h
  · simp only at h
    split at h
    · cases h
    · cases h
    · rename_i u _
      split at h
      · cases h
      · split at h
        · cases h
        · rename_i h1 h2
          injection h with h
          subst h
          split <;> rename_i h3
          · have : ¬ (2 ^ (64 - 1) < u) := fun hx => h2 ⟨h3, hx⟩
            omega
          · have : ¬ (2 ^ (64 - 1) ≤ u) := fun hx => h1 ⟨h3, hx⟩
            omega
theorem num64D : Num64 nbD := by
  intro x
  unfold nbD
  split
  · exact parse_range ‹_›
  · exact sat_range x
  · decide
/-- The one line of a text, if it has one. -/
def lineOf (s : Bs) : Option Ln :=
  match split s with
  | [] => none
  | w :: ws => match formL w with
    | none => none
    | some f => let r := readL ubD nbD gbD gnD f ws; if txt ⟨w, r.1, r.2.1⟩ = some s then some ⟨w, r.1, r.2.1⟩ else none
theorem lineOf_txt {s : Bs} {l : Ln} (h : lineOf s = some l) : txt l = some s := by
  unfold lineOf at h
  split at h
  · cases h
  · split at h
    · cases h
    · simp only at h
      split at h
      · rename_i ht; injection h with h; rw [← h]; exact ht
      · cases h
theorem lineOf_of {s : Bs} {l : Ln} (hi : In64 l.nums) (h : txt l = some s) : lineOf s = some l := by
  obtain ⟨f, ws, hf, hs, hr⟩ := read_txt readerD hi h
  unfold lineOf
  rw [hs]
  simp only
  rw [hf]
  simp only [hr]
  rw [if_pos h]
theorem lineOf_in64 {s : Bs} {l : Ln} (h : lineOf s = some l) : In64 l.nums := by
  unfold lineOf at h
  split at h
  · cases h
  · split at h
    · cases h
    · simp only at h
      split at h
      · injection h with h; rw [← h]; exact read_in64 num64D _ _
      · cases h
/-- A reader's answer is the line of the text: it says a line just where its text is the one read. -/
theorem reader_line {ub : Bs → Bs} {nb : Bs → Int} {gb gn : Bs → Bool} (R : Reader ub nb gb gn) (hn : Num64 nb) {s w f : Bs} {ws : List Bs} (hs : split s = w :: ws) (hf : formL w = some f) :
    (txt ⟨w, (readL ub nb gb gn f ws).1, (readL ub nb gb gn f ws).2.1⟩ = some s ∧ lineOf s = some ⟨w, (readL ub nb gb gn f ws).1, (readL ub nb gb gn f ws).2.1⟩ ∧ (readL ub nb gb gn f ws).2.2 = ([], true)) ∨
    (txt ⟨w, (readL ub nb gb gn f ws).1, (readL ub nb gb gn f ws).2.1⟩ ≠ some s ∧ lineOf s = none) := by
  have key : ∀ l : Ln, In64 l.nums → txt l = some s → readL ub nb gb gn f ws = (l.nums, l.bytes, [], true) ∧ w = l.word := by
    intro l hi h
    obtain ⟨f', ws', hf', hs', hr'⟩ := read_txt R hi h
    rw [hs] at hs'
    injection hs' with hw hs'
    subst hw hs'
    rw [hf] at hf'
    injection hf' with hf'
    subst hf'
    exact ⟨hr', rfl⟩
  by_cases h : txt ⟨w, (readL ub nb gb gn f ws).1, (readL ub nb gb gn f ws).2.1⟩ = some s
  · left
    refine ⟨h, lineOf_of (read_in64 hn _ _) h, ?_⟩
    rw [(key _ (read_in64 hn _ _) h).1]
  · right
    refine ⟨h, ?_⟩
    cases hl : lineOf s with
    | none => rfl
    | some l =>
      exfalso
      have ht := lineOf_txt hl
      obtain ⟨hr, hw⟩ := key l (lineOf_in64 hl) ht
      apply h
      rw [hr, hw]
      exact ht
theorem lineOf_word {s w : Bs} {ws : List Bs} (hs : split s = w :: ws) (hf : formL w = none) : lineOf s = none := by
  unfold lineOf
  rw [hs]
  simp only
  rw [hf]
end Dk
end Go.Proofs.YtigfogpfcbcdhaaGreatDoor
