/- The walk of the statement about texts that are parsed. -/
import Derived.Test.YtigfogpfcbcdhaaGreatDoorDeskJ
import Derived.Test.YtigfogpfcbcdhaaGreatDoorRefQ2
import Derived.Deep.RegionLaw
set_option linter.unusedVariables false
set_option linter.unusedSimpArgs false
namespace Go.Proofs.YtigfogpfcbcdhaaGreatDoor
open Go Go.RowKit
theorem fine_nil : Fine ⟨[], [], []⟩ := ⟨by intro n hn; simp at hn, by simp, by simp, by intro b hb; simp at hb⟩
theorem parsePost_val (L : List UInt8) : ∃ (l : Dk.Ln) (E : Int), ∀ w e w', ParsePost L w e w' → ∃ v, e = .returned (.tuple #[v, .int .i64 E]) ∧ LineAt w' NoAv v l ∧ Below w.heap.size w w' ∧ Fine l := by
  cases h : Dk.lineOf L with
  | none => exact ⟨⟨[], [], []⟩, 120, fun w e w' ht => by obtain ⟨h1, h2⟩ := parse_of_none ht h; exact ⟨_, h1, noLine_at _ _, h2, fine_nil⟩⟩
  | some l => exact ⟨l, 0, fun w e w' ht => by obtain ⟨v, h1, h2, h3, h4, _⟩ := parse_of_some ht h; exact ⟨v, h1, h2, h4, h3⟩⟩
theorem LineAt.parts {w : World} {Av : Nat → Prop} {v : Value} {l : Dk.Ln} (h : LineAt w Av v l) : ∃ A1 c1 A2 c2, v = .agg #[.string ⟨l.word.toArray⟩, .slice A1 l.nums.length c1, .slice A2 l.bytes.length c2] := by
  obtain ⟨v1, v2, rfl, h1, h2⟩ := h
  obtain ⟨A1, c1, rfl, _, _⟩ := h1.nums
  obtain ⟨A2, c2, rfl, _, _⟩ := h2.rows
  exact ⟨A1, c1, A2, c2, rfl⟩
set_option maxHeartbeats 4000000 in
set_option maxRecDepth 100000 in
theorem parses_walk (s : ByteArray) (w : World) (hs : s.size ≤ 9223372036854775807) (he : Env w) :
    Calls Tryz.prog 3 #[.string s] w fun e w' => e = .returned (.bool true) ∧ Below w.heap.size w w' := by
  have HE := Lib.hid he
  clear he
  by_cases hsz : s.size ≤ 9000
  · go_enter Tryz.func3, Tryz.ntmps3
    go_wp2_with fail
    refine (parse_any s w (by omega) HE.out).mono ?_
    intro e w1 ht
    obtain ⟨l, E, hlE⟩ := parsePost_val s.data.toList
    obtain ⟨v, rfl, hl, hb1, hf⟩ := hlE _ _ _ ht
    have HlE := Lib.hid hlE
    have HF := Lib.hid hf
    have Hl := Lib.hid hl
    obtain ⟨A1, c1, A2, c2, rfl⟩ := hl.parts
    obtain ⟨n, hn⟩ : ∃ n, n = l.nums.length := ⟨_, rfl⟩
    obtain ⟨m, hm⟩ : ∃ m, m = l.bytes.length := ⟨_, rfl⟩
    obtain ⟨W, hW⟩ : ∃ W : ByteArray, W = ⟨l.word.toArray⟩ := ⟨_, rfl⟩
    rw [← hn, ← hm, ← hW] at Hl ⊢
    have HN : Hid (n = l.nums.length ∧ m = l.bytes.length ∧ W = ⟨l.word.toArray⟩) := ⟨hn, hm, hW⟩
    obtain ⟨V, hV⟩ : ∃ V, V = w1.alloc (.cells #[.string W, .slice A1 n c1, .slice A2 m c2] 26) := ⟨_, rfl⟩
    have hbV : Below w1.heap.size w1 V := by rw [hV]; exact (Below.refl _ w1).alloc (Nat.le_refl _) _
    have hkV : Blk V w1.heap.size 26 #[.string W, .slice A1 n c1, .slice A2 m c2] := by rw [hV]; exact Blk.new w1 _ _
    have HB1 := Lib.hid (hb1.trans (hbV.mono hb1.size))
    have HlV := Lib.hid (Hl.out.stays hbV)
    have HkV := Lib.hid hkV
    have HV := Lib.hid hV
    have HEV : Hid (Env V) := HE.out.stays HB1.out
    clear ht hlE hf hl hn hm hW hb1 hbV hkV hV
    go_wp2_with fail
    rw [← HV.out]
    refine (refparse_any s V (by omega)).mono ?_
    intro e w2 ht
    obtain ⟨u, rfl, hl2, hb2, _⟩ := HlE.out _ _ _ ht
    have Hl2 := Lib.hid hl2
    obtain ⟨B1, d1, B2, d2, rfl⟩ := hl2.parts
    rw [← HN.out.1, ← HN.out.2.1, ← HN.out.2.2] at Hl2 ⊢
    obtain ⟨X, hX⟩ : ∃ X, X = w2.alloc (.cells #[.string W, .slice B1 n d1, .slice B2 m d2] 30) := ⟨_, rfl⟩
    have hbX : Below w2.heap.size w2 X := by rw [hX]; exact (Below.refl _ w2).alloc (Nat.le_refl _) _
    have hkX : Blk X w2.heap.size 30 #[.string W, .slice B1 n d1, .slice B2 m d2] := by rw [hX]; exact Blk.new w2 _ _
    have hVX := hb2.trans (hbX.mono hb2.size)
    have HBX := Lib.hid (HB1.out.trans (hVX.mono HB1.out.size))
    have HL1 : Hid (∀ Y, Below X.heap.size X Y → LineAt Y NoAv (.agg #[.string W, .slice A1 n c1, .slice A2 m c2]) l) := fun Y hY => (HlV.out.stays hVX).stays hY
    have HL2 : Hid (∀ Y, Below X.heap.size X Y → LineAt Y NoAv (.agg #[.string W, .slice B1 n d1, .slice B2 m d2]) l) := fun Y hY => (Hl2.out.stays hbX).stays hY
    have HEX : Hid (∀ Y, Below X.heap.size X Y → Env Y) := fun Y hY => (HEV.out.stays hVX).stays hY
    have HC1 : Hid (∀ Y, Below X.heap.size X Y → Y.cell? ⟨w1.heap.size, 0, none⟩ = some (.string W) ∧ Y.cell? ⟨w1.heap.size, 1, none⟩ = some (.slice A1 n c1) ∧ Y.cell? ⟨w1.heap.size, 2, none⟩ = some (.slice A2 m c2)) := fun Y hY => by
      have hk := (HkV.out.below hVX HkV.out.lt)
      have hk := hk.below hY hk.lt
      exact ⟨by rw [hk.cell]; rfl, by rw [hk.cell]; rfl, by rw [hk.cell]; rfl⟩
    have HC2 : Hid (∀ Y, Below X.heap.size X Y → Y.cell? ⟨w2.heap.size, 0, none⟩ = some (.string W) ∧ Y.cell? ⟨w2.heap.size, 1, none⟩ = some (.slice B1 n d1) ∧ Y.cell? ⟨w2.heap.size, 2, none⟩ = some (.slice B2 m d2)) := fun Y hY => by
      have hk := hkX.below hY hkX.lt
      exact ⟨by rw [hk.cell]; rfl, by rw [hk.cell]; rfl, by rw [hk.cell]; rfl⟩
    have HX := Lib.hid hX
    have HR : Hid (Below X.heap.size X X.drew) := (Below.refl _ X).drew
    obtain ⟨q0, q1, q2⟩ := HC1.out X (Below.refl _ X)
    obtain ⟨q3, q4, q5⟩ := HC2.out X (Below.refl _ X)
    clear ht hl2 hb2 hX hbX hkX hVX
    go_wp2_with fail
    rw [← HX.out]
    go_region_law (first
      | (go_simp; go_at_call 11; refine (back_any _ l NoAv _ (HL1.out _ (by exact HR.out))).mono ?_; rintro e wa ⟨rfl, hba⟩; have Hba := Lib.hid (HR.out.trans hba); obtain ⟨p3, p4, p5⟩ := HC2.out wa Hba.out; clear hba)
      | (go_simp; go_at_call 10; refine (same_eq _ _ l NoAv NoAv _ (HL1.out _ Hba.out) (HL2.out _ Hba.out) HF.out).mono ?_; rintro e wb ⟨rfl, hbb⟩; have Hbb := Lib.hid (Hba.out.trans (hbb.mono Hba.out.size)); clear hbb)
      | (go_simp; go_at_call 7; refine (known_any _ (HEX.out _ Hbb.out)).mono ?_; rintro e wc ⟨rfl, hbc⟩; have Hbc := Lib.hid (Hbb.out.trans (hbc.mono Hbb.out.size)); clear hbc))
    all_goals
      go_wp2_with fail
      go_ret
      exact ⟨rfl, HBX.out.trans (Hbc.out.mono HBX.out.size)⟩
  · go_enter Tryz.func3, Tryz.ntmps3
    have hd : decide ((9000 : Int) < (s.size : Int)) = true := decide_eq_true (by omega)
    have hd2 : decide (9000 < s.size) = true := decide_eq_true (by omega)
    clear hsz
    go_wp2_with fail
    refine (known_any w HE.out).mono ?_
    rintro e w2 ⟨rfl, hb2⟩
    go_wp2_with fail
    go_ret
    exact ⟨rfl, hb2⟩
end Go.Proofs.YtigfogpfcbcdhaaGreatDoor
