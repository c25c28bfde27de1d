/- The walk of the desk's Parse: the one line of a text, or none. Conditions: the text is short; the library's variables are there. -/
import Derived.Test.YtigfogpfcbcdhaaGreatDoorDeskM
set_option linter.unusedVariables false
set_option linter.unusedSimpArgs false
namespace Go.Proofs.YtigfogpfcbcdhaaGreatDoor
open Go Go.RowKit
/-- What a cut at a blank leaves. -/
def CutIs (s x r : ByteArray) (m : Bool) : Prop := ∃ ws : List (List UInt8), Dk.split s.data.toList = x.data.toList :: ws ∧ ((m = false ∧ ws = []) ∨ (m = true ∧ Dk.split r.data.toList = ws)) ∧ x.size ≤ s.size ∧ r.size ≤ s.size ∧ (m = true → r.size < s.size)
theorem cut_more (s : ByteArray) (w : World) (hs : s.size ≤ 10000000) (he : Env w) :
    Calls Tryz.prog 19 #[.string s, .string ⟨#[32]⟩] w fun e w' => ∃ (x r : ByteArray) (m : Bool), e = .returned (.tuple #[.string x, .string r, .bool m]) ∧ CutIs s x r m ∧ Below w.heap.size w w' := by
  refine (cut_any s ⟨#[32]⟩ w hs he).mono fun e w' ⟨h, hb⟩ => ⟨_, _, _, h, ?_, hb⟩
  rcases Dk.cut_blank s.data.toList with ⟨hc, hsp⟩ | ⟨x, r, hc, hsp, hl⟩
  · have hc' : Lib.cut s.data.toList (⟨#[32]⟩ : ByteArray).data.toList = (s.data.toList, [], false) := hc
    rw [hc']
    exact ⟨[], by simpa using hsp, .inl ⟨rfl, rfl⟩, Nat.le_of_eq rfl, Nat.zero_le _, by simp⟩
  · have hc' : Lib.cut s.data.toList (⟨#[32]⟩ : ByteArray).data.toList = (x, r, true) := hc
    rw [hc']
    have hz : s.size = x.length + 1 + r.length := by
      have : s.size = s.data.toList.length := rfl
      rw [this, hl]; simp; omega
    exact ⟨Dk.split r, by simpa using hsp, .inr ⟨rfl, by simp⟩, by show x.length ≤ _; omega, by show r.length ≤ _; omega, fun _ => by show r.length < _; omega⟩
/-- The answer where there is no line. -/
def noLine : Value := .agg #[.string ⟨#[]⟩, .slice none 0 0, .slice none 0 0]
/-- The line that a call hands back lies in memory that the call made. -/
def OwnLine (B : Nat) (w : World) (v : Value) (l : Dk.Ln) : Prop := ∃ (T : TypeId) (b Lb : Nat) (word : ByteArray) (vn vb : Value), v = .agg #[.string word, vn, vb] ∧ PMem T b w Lb word vn vb l.nums l.bytes ∧ B ≤ b ∧ l.word = word.data.toList
/-- What Parse answers. -/
def ParsePost (L : List UInt8) (w : World) (e : Ending) (w' : World) : Prop :=
  match Dk.lineOf L with
  | some l => ∃ v, e = .returned (.tuple #[v, .int .i64 0]) ∧ LineAt w' NoAv v l ∧ Fine l ∧ Below w.heap.size w w' ∧ OwnLine w.heap.size w' v l
  | none => e = .returned (.tuple #[noLine, .int .i64 120]) ∧ Below w.heap.size w w'
theorem parse_no {L : List UInt8} {w w' : World} {e : Ending} (h : Dk.lineOf L = none) (he : e = .returned (.tuple #[noLine, .int .i64 120])) (hb : Below w.heap.size w w') : ParsePost L w e w' := by
  unfold ParsePost; rw [h]; exact ⟨he, hb⟩
theorem parse_yes {L : List UInt8} {w w' : World} {e : Ending} {word : ByteArray} {vn vb : Value} {ns : List Int} {bs : List (List UInt8)} {T : TypeId} {b Lb : Nat} (h : Dk.lineOf L = some ⟨word.data.toList, ns, bs⟩) (he : e = .returned (.tuple #[.agg #[.string word, vn, vb], .int .i64 0])) (hl : PMem T b w' Lb word vn vb ns bs) (hB : w.heap.size ≤ b) (hf : Fine ⟨word.data.toList, ns, bs⟩) (hb : Below w.heap.size w w') : ParsePost L w e w' := by
  unfold ParsePost; rw [h]; exact ⟨_, he, hl.line, hf, hb, T, b, Lb, word, vn, vb, rfl, hl, hB, rfl⟩
theorem ret_line (tmps : Array Value) (w : World) {P : Nat} {cs : Array Value} {c0 c1 c2 x : Value} (hB : Blk w P 26 cs) (hc : cs = #[c0, c1, c2]) (h2 : tmps[2]?.getD undef = .pointer (some ⟨P, 0, none⟩)) (h3 : tmps[3]?.getD undef = x) :
    (results Tryz.f8 tmps).run Tryz.prog w = .ok (.tuple #[.agg #[c0, c1, c2], x]) w := by
  subst hc
  have g0 : w.cell? ⟨P, 0, none⟩ = some c0 := by rw [hB.cell]; rfl
  have g1 : w.cell? ⟨P, 1, none⟩ = some c1 := by rw [hB.cell]; rfl
  have g2 : w.cell? ⟨P, 2, none⟩ = some c2 := by rw [hB.cell]; rfl
  simp [results, Tryz.results8, go_sem, h2, h3, g0, g1, g2]
abbrev pD := Dk.pstep Dk.ubD Dk.nbD Dk.gbD Dk.gnD
/-- After so many letters of the form. -/
structure QInv (F : ByteArray) (ws0 : List (List UInt8)) (N pos : Nat) (ns : List Int) (bs ws : List (List UInt8)) (ok more : Bool) (rest : ByteArray) : Prop where
  st : (F.data.toList.take pos).foldl pD ([], [], ws0, true) = (ns, bs, ws, ok)
  more : (more = false ∧ ws = []) ∨ (more = true ∧ Dk.split rest.data.toList = ws)
  rz : rest.size ≤ N
  ln : ns.length ≤ pos
  lb : bs.length + ws.length ≤ N
  short : (∀ b ∈ bs, b.length ≤ N) ∧ (∀ x ∈ ws, x.length ≤ N)
  i64 : Dk.In64 ns
theorem QInv.step {F : ByteArray} {ws0 : List (List UInt8)} {N pos : Nat} {ns : List Int} {bs ws : List (List UInt8)} {ok more : Bool} {rest : ByteArray} (h : QInv F ws0 N pos ns bs ws ok more rest) (hp : pos < F.size) :
    (F.data.toList.take (pos + 1)).foldl pD ([], [], ws0, true) = pD (ns, bs, ws, ok) F[pos] := by
  have e : F.data.toList.take (pos + 1) = F.data.toList.take pos ++ [F[pos]] := List.take_succ_eq_append_getElem (l := F.data.toList) hp
  rw [e, List.foldl_append, h.st]; rfl
theorem QInv.nil_ {F : ByteArray} {ws0 : List (List UInt8)} {N pos : Nat} {ns : List Int} {bs ws : List (List UInt8)} {ok : Bool} {rest : ByteArray} (h : QInv F ws0 N pos ns bs ws ok false rest) (hp : pos < F.size) : QInv F ws0 N (pos + 1) ns bs ws ok false rest := by
  have hw : ws = [] := by
    rcases h.more with ⟨_, h⟩ | ⟨h, _⟩
    · exact h
    · cases h
  subst hw
  exact ⟨by rw [h.step hp]; rfl, h.more, h.rz, by have := h.ln; omega, h.lb, h.short, h.i64⟩
/-- The pieces that a cut leaves. -/
theorem QInv.cut {F : ByteArray} {ws0 : List (List UInt8)} {N pos : Nat} {ns : List Int} {bs ws : List (List UInt8)} {ok : Bool} {rest y r : ByteArray} {m : Bool} (h : QInv F ws0 N pos ns bs ws ok true rest) (hc : CutIs rest y r m) :
    ∃ ws', ws = y.data.toList :: ws' ∧ ((m = false ∧ ws' = []) ∨ (m = true ∧ Dk.split r.data.toList = ws')) ∧ y.size ≤ N ∧ r.size ≤ N := by
  obtain ⟨ws', h1, h2, h3, h4, _⟩ := hc
  refine ⟨ws', ?_, h2, Nat.le_trans h3 h.rz, Nat.le_trans h4 h.rz⟩
  rcases h.more with ⟨h, _⟩ | ⟨_, h⟩
  · cases h
  · rw [← h, h1]
theorem QInv.hex {F : ByteArray} {ws0 : List (List UInt8)} {N pos : Nat} {ns : List Int} {bs ws : List (List UInt8)} {ok : Bool} {rest y r : ByteArray} {m : Bool} (h : QInv F ws0 N pos ns bs ws ok true rest) (hp : pos < F.size) (hc : CutIs rest y r m) (h4 : F[pos] = 104) :
    ∃ ws', QInv F ws0 N (pos + 1) ns (bs ++ [Dk.ubD y.data.toList]) ws' (ok && Dk.gbD y.data.toList) m r := by
  obtain ⟨ws', rfl, hm, hy, hr⟩ := h.cut hc
  have hu := Dk.ubD_length y.data.toList
  have hy' : y.data.toList.length ≤ N := hy
  refine ⟨ws', by rw [h.step hp, h4]; rfl, hm, hr, by have := h.ln; omega, by have := h.lb; simp at this ⊢; omega, ⟨fun b hb => ?_, fun x hx => h.short.2 x (by simp [hx])⟩, h.i64⟩
  rw [List.mem_append, List.mem_singleton] at hb
  rcases hb with hb | rfl
  · exact h.short.1 b hb
  · omega
theorem QInv.num {F : ByteArray} {ws0 : List (List UInt8)} {N pos : Nat} {ns : List Int} {bs ws : List (List UInt8)} {ok : Bool} {rest y r : ByteArray} {m : Bool} (h : QInv F ws0 N pos ns bs ws ok true rest) (hp : pos < F.size) (hc : CutIs rest y r m) (h4 : F[pos] ≠ 104) (h2 : F[pos] ≠ 42) :
    ∃ ws', QInv F ws0 N (pos + 1) (ns ++ [Dk.nbD y.data.toList]) bs ws' (ok && Dk.gnD y.data.toList) m r := by
  obtain ⟨ws', rfl, hm, hy, hr⟩ := h.cut hc
  refine ⟨ws', ?_, hm, hr, by have := h.ln; simp; omega, by have := h.lb; simp at this ⊢; omega, ⟨h.short.1, fun x hx => h.short.2 x (by simp [hx])⟩, fun n hn => ?_⟩
  · rw [h.step hp]
    unfold pD Dk.pstep
    simp only
    rw [if_neg h4, if_neg h2]
  · rw [List.mem_append, List.mem_singleton] at hn
    rcases hn with hn | rfl
    · exact h.i64 n hn
    · exact Dk.num64D _
/-- In the letter '*': so many pieces are taken. -/
structure StarInv (N : Nat) (bs ws : List (List UInt8)) (ok : Bool) (j : Nat) (bs' : List (List UInt8)) (ok' more : Bool) (rest : ByteArray) : Prop where
  hj : j ≤ ws.length
  bs_ : bs' = bs ++ (ws.take j).map Dk.ubD
  ok_ : ok' = (ok && (ws.take j).all Dk.gbD)
  more : (more = false ∧ ws.drop j = []) ∨ (more = true ∧ Dk.split rest.data.toList = ws.drop j)
  rz : rest.size ≤ N
theorem StarInv.start {F : ByteArray} {ws0 : List (List UInt8)} {N pos : Nat} {ns : List Int} {bs ws : List (List UInt8)} {ok : Bool} {rest : ByteArray} (h : QInv F ws0 N pos ns bs ws ok true rest) : StarInv N bs ws ok 0 bs ok true rest :=
  ⟨Nat.zero_le _, by simp, by simp, by simpa using h.more, h.rz⟩
theorem StarInv.next {N : Nat} {bs ws : List (List UInt8)} {ok : Bool} {j : Nat} {bs' : List (List UInt8)} {ok' : Bool} {rest y r : ByteArray} {m : Bool} (h : StarInv N bs ws ok j bs' ok' true rest) (hc : CutIs rest y r m) :
    j < ws.length ∧ y.size ≤ N ∧ StarInv N bs ws ok (j + 1) (bs' ++ [Dk.ubD y.data.toList]) (ok' && Dk.gbD y.data.toList) m r := by
  obtain ⟨ws', h1, h2, h3, h4, _⟩ := hc
  have hd : ws.drop j = y.data.toList :: ws' := by
    rcases h.more with ⟨h, _⟩ | ⟨_, h⟩
    · cases h
    · rw [← h, h1]
  have hlt : j < ws.length := by
    rcases Nat.lt_or_ge j ws.length with h5 | h5
    · exact h5
    · rw [List.drop_eq_nil_of_le h5] at hd; cases hd
  have hg : ws[j] = y.data.toList ∧ ws.drop (j + 1) = ws' := by
    rw [List.drop_eq_getElem_cons hlt] at hd
    injection hd with h5 h6
    exact ⟨h5, h6⟩
  have ht : ws.take (j + 1) = ws.take j ++ [y.data.toList] := by rw [List.take_succ_eq_append_getElem hlt, hg.1]
  exact ⟨hlt, Nat.le_trans h3 h.rz, hlt, by rw [h.bs_, ht]; simp, by rw [h.ok_, ht]; simp [Bool.and_assoc], by rw [hg.2]; exact h2, Nat.le_trans h4 h.rz⟩
theorem StarInv.fin {F : ByteArray} {ws0 : List (List UInt8)} {N pos : Nat} {ns : List Int} {bs ws : List (List UInt8)} {ok : Bool} {rest : ByteArray} (h : QInv F ws0 N pos ns bs ws ok true rest) (hp : pos < F.size) (h2 : F[pos] = 42) {j : Nat} {bs' : List (List UInt8)} {ok' : Bool} {r : ByteArray}
    (k : StarInv N bs ws ok j bs' ok' false r) : QInv F ws0 N (pos + 1) ns bs' [] ok' false r := by
  have hd : ws.drop j = [] := by
    rcases k.more with ⟨_, h⟩ | ⟨h, _⟩
    · exact h
    · cases h
  have hj : j = ws.length := by have := List.drop_eq_nil_iff.1 hd; have := k.hj; omega
  have hb := k.bs_
  have ho := k.ok_
  rw [hj, List.take_length] at hb ho
  have hne : ws ≠ [] := by
    rcases h.more with ⟨h, _⟩ | ⟨_, h⟩
    · cases h
    · rw [← h]; exact Dk.split_ne _
  refine ⟨?_, .inl ⟨rfl, rfl⟩, k.rz, by have := h.ln; omega, by rw [hb]; have := h.lb; simp; omega, ⟨fun b hbm => ?_, by intro x hx; cases hx⟩, h.i64⟩
  · rw [h.step hp, h2, hb, ho]
    cases ws with
    | nil => exact absurd rfl hne
    | cons a t => rfl
  · rw [hb, List.mem_append, List.mem_map] at hbm
    rcases hbm with hbm | ⟨x, hx, rfl⟩
    · exact h.short.1 b hbm
    · exact Nat.le_trans (Dk.ubD_length x) (h.short.2 x hx)
/-- unhex, as a reader has it. -/
theorem unhex_two (s : ByteArray) (w : World) (hs : s.size ≤ 100000) : Calls Tryz.prog 21 #[.string s] w fun e w' => ∃ v, e = .returned (.tuple #[v, .bool (Dk.gbD s.data.toList)]) ∧ w'.ownsRow w.heap.size 5 1 v (Dk.ubD s.data.toList).length (Lib.byteCells (Dk.ubD s.data.toList)) ∧ Below w.heap.size w w' := by
  refine (unhex_any s w hs).mono fun e w' h => ?_
  unfold UnhexPost at h
  cases hu : Dk.unhex s.data.toList with
  | none =>
    rw [hu] at h
    obtain ⟨he, hb⟩ := h
    have e1 : Dk.gbD s.data.toList = false := by unfold Dk.gbD; rw [hu]; rfl
    have e2 : Dk.ubD s.data.toList = [] := by unfold Dk.ubD; rw [hu]; rfl
    rw [e1, e2]
    exact ⟨_, he, nil8 _ _, hb⟩
  | some b =>
    rw [hu] at h
    obtain ⟨v, he, ho, hb⟩ := h
    have e1 : Dk.gbD s.data.toList = true := by unfold Dk.gbD; rw [hu]; rfl
    have e2 : Dk.ubD s.data.toList = b := by unfold Dk.ubD; rw [hu]; rfl
    rw [e1, e2]
    exact ⟨v, he, ho, hb⟩
set_option maxHeartbeats 4000000 in
set_option maxRecDepth 100000 in
theorem parse_none (s : ByteArray) (w : World) (hs : s.size ≤ 60000) (he : Env w) (hno : ∀ x ws, Dk.split s.data.toList = x :: ws → Dk.formL x = none) :
    Calls Tryz.prog 8 #[.string s] w (ParsePost s.data.toList w) := by
  have HE := Lib.hid he
  have Hno := Lib.hid hno
  have Hl : Hid (Dk.lineOf s.data.toList = none) := by
    show _ = _
    cases hs : Dk.split s.data.toList with
    | nil => exact absurd hs (Dk.split_ne _)
    | cons x ws => exact Dk.lineOf_word hs (hno _ _ hs)
  clear he hno
  go_enter Tryz.func8, Tryz.ntmps8
  go_wp2_with fail
  refine (cut_more s _ (by omega) (HE.out.stays ((Below.refl _ w).alloc (Nat.le_refl _) _))).mono ?_
  rintro e w1 ⟨x, r, m, rfl, hc, hb⟩
  have hp0 : w1.cell? ⟨w.heap.size, 0, none⟩ = some (.string ⟨#[]⟩) := by rw [hb.cell (by simp), World.cell?_alloc_new]; rfl
  have hp1 : w1.cell? ⟨w.heap.size, 1, none⟩ = some (.slice none 0 0) := by rw [hb.cell (by simp), World.cell?_alloc_new]; rfl
  have hp2 : w1.cell? ⟨w.heap.size, 2, none⟩ = some (.slice none 0 0) := by rw [hb.cell (by simp), World.cell?_alloc_new]; rfl
  have hP : Hid (Blk w1 w.heap.size 26 #[.string ⟨#[]⟩, .slice none 0 0, .slice none 0 0]) := (Blk.new w _ _).below hb (by simp)
  have hf0 := hP.out.frozen 0
  have hf1 := hP.out.frozen 1
  have hf2 := hP.out.frozen 2
  have hF : Hid (formVal x.data.toList = .tuple #[.string ⟨#[]⟩, .bool false]) := by
    obtain ⟨ws, h, _⟩ := hc
    exact formVal_none (Hno.out _ _ h)
  have Hb := Lib.hid hb
  clear hb hc
  go_wp2_with fail
  refine (form_any x _).mono ?_
  rintro e w2 ⟨rfl, rfl⟩
  rw [hF.out]
  go_wp2_with fail
  have hB := ((hP.out.set_ 0 (.string ⟨#[]⟩)).set_ 1 (.slice none 0 0)).set_ 2 (.slice none 0 0)
  have HB2 := Lib.hid ((((((Below.refl w.heap.size w).alloc (Nat.le_refl _) _).trans (Hb.out.mono (by simp))).setCell (p := ⟨w.heap.size, 0, none⟩) (Nat.le_refl _) (.string ⟨#[]⟩)).setCell (p := ⟨w.heap.size, 1, none⟩) (Nat.le_refl _) (.slice none 0 0)).setCell (p := ⟨w.heap.size, 2, none⟩) (Nat.le_refl _) (.slice none 0 0))
  exact bodyPost_ret (v := .tuple #[noLine, .int .i64 120]) (ret_line _ _ hB rfl rfl rfl) rfl (parse_no (Hl.out) rfl HB2.out)
end Go.Proofs.YtigfogpfcbcdhaaGreatDoor
