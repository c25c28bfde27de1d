/- The walk of the statement about lines and texts, there and back. -/
import Derived.Test.YtigfogpfcbcdhaaGreatDoorDeskO
import Derived.Test.YtigfogpfcbcdhaaGreatDoorDeskBp
import Derived.Deep.Cut
set_option linter.unusedVariables false
set_option linter.unusedSimpArgs false
namespace Go.Proofs.YtigfogpfcbcdhaaGreatDoor
open Go Go.RowKit
theorem lineOf_short {s : List UInt8} {l : Dk.Ln} (h : Dk.lineOf s = some l) : l.word.length ≤ 100000 := by
  have h1 := Dk.lineOf_txt h
  unfold Dk.txt at h1
  split at h1
  · cases h1
  · rename_i f hf
    have := (Dk.word_plain hf).2.2
    omega
theorem text_back {l : Dk.Ln} {w w' : World} {e : Ending} (hi : Dk.In64 l.nums) (hz : Dk.sizeL l ≤ 3000) (h : TextPost l w e w') :
    ∃ (T : ByteArray) (E : Int), e = .returned (.tuple #[.string T, .int .i64 E]) ∧ Below w.heap.size w w' ∧ ((E = 0 ∧ Dk.lineOf T.data.toList = some l ∧ T.size ≤ 60000) ∨ E = 120) := by
  unfold TextPost at h
  split at h
  · rename_i t ht
    refine ⟨_, _, h.1, h.2, .inl ⟨rfl, Dk.lineOf_of hi (by simpa using ht), ?_⟩⟩
    have h1 := Dk.txt_len hi ht
    show t.length ≤ 60000
    omega
  · exact ⟨_, _, h.1, h.2, .inr rfl⟩
theorem text_of_line {s : ByteArray} {l : Dk.Ln} {w w' : World} {e : Ending} (hl : Dk.lineOf s.data.toList = some l) (h : TextPost l w e w') : e = .returned (.tuple #[.string s, .int .i64 0]) ∧ Below w.heap.size w w' := by
  unfold TextPost at h
  rw [Dk.lineOf_txt hl] at h
  exact ⟨by rw [h.1, Lib.mk_data], h.2⟩
set_option maxHeartbeats 4000000 in
set_option maxRecDepth 100000 in
theorem deskBack_walk (v : Value) (l : Dk.Ln) (s : ByteArray) (w : World) (h : LineAt w NoAv v l) (hr : Dk.Room l) (hi : Dk.In64 l.nums) (hs : s.size ≤ 9223372036854775807) (he : Env w) :
    Calls Tryz.prog 5 #[v, .string s] w fun e w' => e = .returned (.bool true) ∧ Below w.heap.size w w' := by
  have H := Lib.hid h
  have HR := Lib.hid hr
  have HI := Lib.hid hi
  have HE := Lib.hid he
  obtain ⟨v1, v2, rfl, h1, h2⟩ := h
  obtain ⟨A1, c1, rfl, _, _⟩ := h1.nums
  obtain ⟨A2, c2, rfl, _, _⟩ := h2.rows
  obtain ⟨n, hn⟩ : ∃ n, n = l.nums.length := ⟨_, rfl⟩
  obtain ⟨m, hm⟩ : ∃ m, m = l.bytes.length := ⟨_, rfl⟩
  obtain ⟨W, hW⟩ : ∃ W : ByteArray, W = ⟨l.word.toArray⟩ := ⟨_, rfl⟩
  have hWl : W.data.toList = l.word := by rw [hW]
  rw [← hn, ← hm, ← hW] at H ⊢
  have HN : Hid (n = l.nums.length ∧ m = l.bytes.length ∧ W = ⟨l.word.toArray⟩) := ⟨hn, hm, hW⟩
  have HWl := Lib.hid hWl
  obtain ⟨V, hV⟩ : ∃ V, V = w.alloc (.cells #[.string W, .slice A1 n c1, .slice A2 m c2] 30) := ⟨_, rfl⟩
  have HB : Hid (Below w.heap.size w V) := by show Below _ _ _; rw [hV]; exact (Below.refl _ w).alloc (Nat.le_refl _) _
  have HK : Hid (Blk V w.heap.size 30 #[.string W, .slice A1 n c1, .slice A2 m c2]) := by show Blk _ _ _ _; rw [hV]; exact Blk.new w _ _
  have HV := Lib.hid hV
  have hzV := HB.out.size
  have hcs : ∀ W', Below V.heap.size V W' → W'.cell? ⟨w.heap.size, 0, none⟩ = some (.string W) ∧ W'.cell? ⟨w.heap.size, 1, none⟩ = some (.slice A1 n c1) ∧ W'.cell? ⟨w.heap.size, 2, none⟩ = some (.slice A2 m c2) := fun W' hb => by
    have hk := HK.out.below hb HK.out.lt
    exact ⟨by rw [hk.cell]; rfl, by rw [hk.cell]; rfl, by rw [hk.cell]; rfl⟩
  have HC := Lib.hid hcs
  clear h1 h2 hr hi he hn hm hW hWl hV hcs
  go_enter Tryz.func5, Tryz.ntmps5
  go_wp2_with fail
  rw [← HV.out]
  refine (size_any _ l NoAv V (H.out.stays HB.out) HR.out).mono ?_
  rintro e w1 ⟨⟨k, rfl, hk⟩, hb1⟩
  obtain ⟨q0, q1, q2⟩ := HC.out w1 hb1
  have HE1 : Hid (Env w1) := (HE.out.stays HB.out).stays hb1
  have HB1 := Lib.hid (HB.out.trans (hb1.mono hzV))
  have hz1 := hb1.size
  have Hb1 := Lib.hid hb1
  have Hk := Lib.hid hk
  clear hk hb1
  by_cases hk3 : k ≤ 3000
  · have hkd : decide ((3000 : Int) < (k : Int)) = false := decide_eq_false (by omega)
    have hkd2 : decide (3000 < k) = false := decide_eq_false (by omega)
    by_cases hs9 : s.size ≤ 9000
    · have hsd : decide ((9000 : Int) < (s.size : Int)) = false := decide_eq_false (by omega)
      have hsd2 : decide (9000 < s.size) = false := decide_eq_false (by omega)
      have Hz : Hid (Dk.sizeL l ≤ 3000) := by show _ ≤ _; rw [Hk.out hk3]; exact hk3
      have HF : Hid (Fine l) := fine_of HI.out Hz.out
      have hwl : l.word.length ≤ 100000 := by
        have := Hz.out
        unfold Dk.sizeL at this
        omega
      have Hwl := Lib.hid hwl
      clear hk3 hwl
      go_wp2_with fail
      refine (own_any _ l NoAv w1 (H.out.stays HB1.out)).mono ?_
      rintro e w2 ⟨rfl, hb2⟩
      have HB2 := Lib.hid (HB1.out.trans (hb2.mono HB1.out.size))
      have hb12 := Hb1.out.trans (hb2.mono hz1)
      have HE2 : Hid (Env w2) := HE1.out.stays hb2
      have hz2 := hb2.size
      have Hb12 := Lib.hid hb12
      clear hb2 hb12 q0 q1 q2
      go_wp2_with fail
      refine (text_any _ l w2 (H.out.stays HB2.out) HF.out Hwl.out HE2.out).mono ?_
      intro e w3 ht
      obtain ⟨T, E, rfl, hb3, hTE⟩ := text_back HI.out Hz.out ht
      have HTE := Lib.hid hTE
      have HB3 := Lib.hid (HB2.out.trans (hb3.mono HB2.out.size))
      have HV3 := Lib.hid (Hb12.out.trans (hb3.mono (by omega)))
      have HE3 : Hid (Env w3) := HE2.out.stays hb3
      clear hb3 hTE ht
      go_upto_if 29 with fail
      go_cut [4] from 30 (fun s4 wx => s4 = .bool false ∧ Hid (Below w3.heap.size w3 wx))
      case first =>
        rcases HTE.out with ⟨rfl, hlo, hT⟩ | rfl
        · have Hlo := Lib.hid hlo
          clear hlo
          go_wp2_with fail
          refine (parse_any T w3 hT HE3.out).mono ?_
          intro e w4 hp
          obtain ⟨v4, rfl, hl4, hf4, hb4, _⟩ := parse_of_some hp Hlo.out
          obtain ⟨B1, d1, B2, d2, rfl⟩ := hl4.parts
          have Hl4 := Lib.hid hl4
          rw [← HN.out.1, ← HN.out.2.1, ← HN.out.2.2] at Hl4 ⊢
          obtain ⟨X, hX⟩ : ∃ X, X = w4.alloc (.cells #[.string W, .slice B1 n d1, .slice B2 m d2] 26) := ⟨_, rfl⟩
          have hbX : Below w4.heap.size w4 X := by rw [hX]; exact (Below.refl _ w4).alloc (Nat.le_refl _) _
          have hkX : Blk X w4.heap.size 26 #[.string W, .slice B1 n d1, .slice B2 m d2] := by rw [hX]; exact Blk.new w4 _ _
          have h3X := hb4.trans (hbX.mono hb4.size)
          have HBX := Lib.hid h3X
          have HL1 : Hid (∀ Y, Below X.heap.size X Y → LineAt Y NoAv (.agg #[.string W, .slice A1 n c1, .slice A2 m c2]) l) := fun Y hY => ((H.out.stays HB3.out).stays h3X).stays hY
          have HL2 : Hid (∀ Y, Below X.heap.size X Y → LineAt Y NoAv (.agg #[.string W, .slice B1 n d1, .slice B2 m d2]) l) := fun Y hY => (Hl4.out.stays hbX).stays hY
          have HC1 : Hid (∀ Y, Below X.heap.size X Y → Y.cell? ⟨w.heap.size, 0, none⟩ = some (.string W) ∧ Y.cell? ⟨w.heap.size, 1, none⟩ = some (.slice A1 n c1) ∧ Y.cell? ⟨w.heap.size, 2, none⟩ = some (.slice A2 m c2)) := fun Y hY =>
            HC.out Y ((HV3.out.trans (h3X.mono HV3.out.size)).trans (hY.mono (by have := HV3.out.size; have := h3X.size; omega)))
          have HC2 : Hid (∀ Y, Below X.heap.size X Y → Y.cell? ⟨w4.heap.size, 0, none⟩ = some (.string W) ∧ Y.cell? ⟨w4.heap.size, 1, none⟩ = some (.slice B1 n d1) ∧ Y.cell? ⟨w4.heap.size, 2, none⟩ = some (.slice B2 m d2)) := fun Y hY => by
            have hk := hkX.below hY hkX.lt
            exact ⟨by rw [hk.cell]; rfl, by rw [hk.cell]; rfl, by rw [hk.cell]; rfl⟩
          have HX := Lib.hid hX
          have HRx : Hid (Below X.heap.size X X.drew) := (Below.refl _ X).drew
          obtain ⟨q0, q1, q2⟩ := HC1.out X (Below.refl _ X)
          obtain ⟨q3, q4, q5⟩ := HC2.out X (Below.refl _ X)
          clear hp hl4 hb4 hX hbX hkX h3X hf4 hT
          go_wp2_with fail
          rw [← HX.out]
          go_region_law (first
            | (go_simp; go_at_call 11; refine (back_any _ l NoAv _ (HL2.out _ (by exact HRx.out))).mono ?_; rintro e wa ⟨rfl, hba⟩; have Hba := Lib.hid (HRx.out.trans hba); obtain ⟨p3, p4, p5⟩ := HC1.out wa Hba.out; clear hba)
            | (go_simp; go_at_call 10; refine (same_eq _ _ l NoAv NoAv _ (HL2.out _ Hba.out) (HL1.out _ Hba.out) HF.out).mono ?_; rintro e wb ⟨rfl, hbb⟩; have Hbb := Lib.hid (Hba.out.trans (hbb.mono Hba.out.size)); clear hbb))
          all_goals
            go_wp2_with fail
            go_meet
            exact ⟨rfl, HBX.out.trans (Hbb.out.mono HBX.out.size)⟩
        · go_wp2_with fail
          go_meet
          exact ⟨rfl, Below.refl _ _⟩
      case rest =>
      obtain ⟨rfl, HR3⟩ := hcut
      have HB5 := Lib.hid (HB3.out.trans (HR3.out.mono HB3.out.size))
      have HE5 : Hid (Env wc) := HE3.out.stays HR3.out
      clear HV3 HB2 HB1 Hb1 Hb12 HE1 HE2 HE3
      go_wp2_with fail
      refine (parse_any s wc (by omega) HE5.out).mono ?_
      intro e w6 hp
      cases hL : Dk.lineOf s.data.toList with
      | none =>
        obtain ⟨rfl, hb6⟩ := parse_of_none hp hL
        unfold noLine
        have HB6 := Lib.hid (HB5.out.trans (hb6.mono HB5.out.size))
        have HE6 : Hid (Env w6) := HE5.out.stays hb6
        obtain ⟨X, hX⟩ : ∃ X, X = w6.alloc (.cells #[.string ⟨#[]⟩, .slice none 0 0, .slice none 0 0] 26) := ⟨_, rfl⟩
        have hbX : Below w6.heap.size w6 X := by rw [hX]; exact (Below.refl _ w6).alloc (Nat.le_refl _) _
        have HEX : Hid (Env X) := HE6.out.stays hbX
        have HBX := Lib.hid (HB6.out.trans (hbX.mono HB6.out.size))
        have HX := Lib.hid hX
        clear hp hL hb6 hX hbX
        go_wp2_with fail
        rw [← HX.out]
        refine (known_any X HEX.out).mono ?_
        rintro e w7 ⟨rfl, hb7⟩
        go_wp2_with fail
        go_ret
        exact ⟨rfl, HBX.out.trans (hb7.mono HBX.out.size)⟩
      | some l2 =>
        obtain ⟨v6, rfl, hl6, hf6, hb6, _⟩ := parse_of_some hp hL
        have Hl6 := Lib.hid hl6
        obtain ⟨B1, d1, B2, d2, rfl⟩ := hl6.parts
        obtain ⟨n2, hn2⟩ : ∃ n, n = l2.nums.length := ⟨_, rfl⟩
        obtain ⟨m2, hm2⟩ : ∃ m, m = l2.bytes.length := ⟨_, rfl⟩
        obtain ⟨W2, hW2⟩ : ∃ W : ByteArray, W = ⟨l2.word.toArray⟩ := ⟨_, rfl⟩
        rw [← hn2, ← hm2, ← hW2] at Hl6 ⊢
        have HB6 := Lib.hid (HB5.out.trans (hb6.mono HB5.out.size))
        have HE6 : Hid (Env w6) := HE5.out.stays hb6
        have HF6 := Lib.hid hf6
        have HL := Lib.hid hL
        obtain ⟨X, hX⟩ : ∃ X, X = w6.alloc (.cells #[.string W2, .slice B1 n2 d1, .slice B2 m2 d2] 26) := ⟨_, rfl⟩
        have hbX : Below w6.heap.size w6 X := by rw [hX]; exact (Below.refl _ w6).alloc (Nat.le_refl _) _
        have HEX : Hid (Env X) := HE6.out.stays hbX
        have HLX : Hid (LineAt X NoAv (.agg #[.string W2, .slice B1 n2 d1, .slice B2 m2 d2]) l2) := Hl6.out.stays hbX
        have HBX := Lib.hid (HB6.out.trans (hbX.mono HB6.out.size))
        have HX := Lib.hid hX
        clear hp hL hl6 hf6 hb6 hX hbX hn2 hm2 hW2
        go_wp2_with fail
        rw [← HX.out]
        refine (text_any _ l2 X HLX.out HF6.out (lineOf_short HL.out) HEX.out).mono ?_
        intro e w7 ht
        obtain ⟨rfl, hb7⟩ := text_of_line HL.out ht
        have HE7 : Hid (Env w7) := HEX.out.stays hb7
        have HB7 := Lib.hid (HBX.out.trans (hb7.mono HBX.out.size))
        clear ht hb7
        go_wp2_with fail
        refine (known_any w7 HE7.out).mono ?_
        rintro e w8 ⟨rfl, hb8⟩
        go_wp2_with fail
        go_ret
        exact ⟨rfl, HB7.out.trans (hb8.mono HB7.out.size)⟩
    · have hsd : decide ((9000 : Int) < (s.size : Int)) = true := decide_eq_true (by omega)
      have hsd2 : decide (9000 < s.size) = true := decide_eq_true (by omega)
      clear hk3 hs9
      go_wp2_with fail
      refine (known_any w1 HE1.out).mono ?_
      rintro e w2 ⟨rfl, hb2⟩
      go_wp2_with fail
      go_ret
      exact ⟨rfl, HB1.out.trans (hb2.mono HB1.out.size)⟩
  · have hkd : decide ((3000 : Int) < (k : Int)) = true := decide_eq_true (by omega)
    have hkd2 : decide (3000 < k) = true := decide_eq_true (by omega)
    clear hk3
    go_wp2_with fail
    refine (known_any w1 HE1.out).mono ?_
    rintro e w2 ⟨rfl, hb2⟩
    go_wp2_with fail
    go_ret
    exact ⟨rfl, HB1.out.trans (hb2.mono HB1.out.size)⟩
end Go.Proofs.YtigfogpfcbcdhaaGreatDoor
