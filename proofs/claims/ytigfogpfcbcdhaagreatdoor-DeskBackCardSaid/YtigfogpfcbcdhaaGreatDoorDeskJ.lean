/- The walk of the statement about a line's text. -/
import Derived.Test.YtigfogpfcbcdhaaGreatDoorDeskC
import Derived.Test.YtigfogpfcbcdhaaGreatDoorDeskK
import Derived.Test.YtigfogpfcbcdhaaGreatDoorRefT
set_option linter.unusedVariables false
set_option linter.unusedSimpArgs false
namespace Go.Proofs.YtigfogpfcbcdhaaGreatDoor
open Go Go.RowKit
theorem fine_of {l : Dk.Ln} (hi : Dk.In64 l.nums) (hs : Dk.sizeL l ≤ 3000) : Fine l := by
  have h1 := Dk.sumB_len l.bytes
  unfold Dk.sizeL at hs
  exact ⟨hi, by omega, by omega, fun b hb => by have := Dk.sumB_mem hb; omega⟩
theorem LineAt.stays {w w' : World} {Av : Nat → Prop} {v : Value} {l : Dk.Ln} (h : LineAt w Av v l) (hb : Below w.heap.size w w') : LineAt w' Av v l := by
  obtain ⟨vn, vb, h1, h2, h3⟩ := h
  exact ⟨vn, vb, h1, h2.stays hb, h3.stays hb⟩
theorem textPost_val (l : Dk.Ln) : ∃ (T : ByteArray) (E : Int), ∀ w e w', TextPost l w e w' → e = .returned (.tuple #[.string T, .int .i64 E]) ∧ Below w.heap.size w w' := by
  cases h : Dk.txt l with
  | none => exact ⟨_, _, fun w e w' ht => by unfold TextPost at ht; rw [h] at ht; exact ht⟩
  | some t => exact ⟨_, _, fun w e w' ht => by unfold TextPost at ht; rw [h] at ht; exact ht⟩
set_option maxHeartbeats 4000000 in
set_option maxRecDepth 100000 in
theorem texts_walk (v : Value) (l : Dk.Ln) (w : World) (h : LineAt w NoAv v l) (hr : Dk.Room l) (hi : Dk.In64 l.nums) (he : Env w) :
    Calls Tryz.prog 4 #[v] w fun e w' => e = .returned (.bool true) ∧ Below w.heap.size w w' := by
  have H := Lib.hid h
  have HR := Lib.hid hr
  have HI := Lib.hid hi
  have HE := Lib.hid he
  obtain ⟨v1, v2, rfl, h1, h2⟩ := h
  obtain ⟨A1, c1, rfl, _, _⟩ := h1.nums
  obtain ⟨A2, c2, rfl, _, _⟩ := h2.rows
  obtain ⟨n, hn⟩ : ∃ n, n = l.nums.length := ⟨_, rfl⟩
  obtain ⟨m, hm⟩ : ∃ m, m = l.bytes.length := ⟨_, rfl⟩
  obtain ⟨W, hW⟩ : ∃ W : ByteArray, W = ⟨l.word.toArray⟩ := ⟨_, rfl⟩
  have hWl : W.data.toList = l.word := by rw [hW]
  rw [← hn, ← hm, ← hW] at H ⊢
  have HWl := Lib.hid hWl
  obtain ⟨V, hV⟩ : ∃ V, V = w.alloc (.cells #[.string W, .slice A1 n c1, .slice A2 m c2] 30) := ⟨_, rfl⟩
  have HB : Hid (Below w.heap.size w V) := by show Below _ _ _; rw [hV]; exact (Below.refl _ w).alloc (Nat.le_refl _) _
  have HK : Hid (Blk V w.heap.size 30 #[.string W, .slice A1 n c1, .slice A2 m c2]) := by show Blk _ _ _ _; rw [hV]; exact Blk.new w _ _
  have HV := Lib.hid hV
  have hzV := HB.out.size
  have hcs : ∀ W', Below V.heap.size V W' → W'.cell? ⟨w.heap.size, 0, none⟩ = some (.string W) ∧ W'.cell? ⟨w.heap.size, 1, none⟩ = some (.slice A1 n c1) ∧ W'.cell? ⟨w.heap.size, 2, none⟩ = some (.slice A2 m c2) := fun W' hb => by
    have hk := HK.out.below hb HK.out.lt
    exact ⟨by rw [hk.cell]; rfl, by rw [hk.cell]; rfl, by rw [hk.cell]; rfl⟩
  have HC := Lib.hid hcs
  clear h1 h2 hr hi he hn hm hW hWl hV hcs
  go_enter Tryz.func4, Tryz.ntmps4
  go_wp2_with fail
  rw [← HV.out]
  refine (size_any _ l NoAv V (H.out.stays HB.out) HR.out).mono ?_
  rintro e w1 ⟨⟨k, rfl, hk⟩, hb1⟩
  obtain ⟨q0, q1, q2⟩ := HC.out w1 hb1
  have HE1 : Hid (Env w1) := (HE.out.stays HB.out).stays hb1
  have HB1 := Lib.hid (HB.out.trans (hb1.mono hzV))
  have hz1 := hb1.size
  have Hb1 := Lib.hid hb1
  have Hk := Lib.hid hk
  clear hk hb1
  by_cases hk3 : k ≤ 3000
  · have hkd : decide ((3000 : Int) < (k : Int)) = false := decide_eq_false (by omega)
    have hkd2 : decide (3000 < k) = false := decide_eq_false (by omega)
    have HF : Hid (Fine l) := fine_of HI.out (by rw [Hk.out hk3]; exact hk3)
    have hwz : W.size ≤ 3000 := by
      have h1 := Hk.out hk3
      have h2 : l.word.length ≤ Dk.sizeL l := by unfold Dk.sizeL; omega
      have e : W.size = l.word.length := by rw [← HWl.out]; rfl
      omega
    have hwl : l.word.length ≤ 100000 := by
      have e : W.size = l.word.length := by rw [← HWl.out]; rfl
      omega
    have Hwl := Lib.hid hwl
    clear hk3 hwl
    go_wp2_with fail
    refine (own_any _ l NoAv w1 (H.out.stays HB1.out)).mono ?_
    rintro e w2 ⟨rfl, hb2⟩
    have HB2 := Lib.hid (HB1.out.trans (hb2.mono HB1.out.size))
    have hb12 := Hb1.out.trans (hb2.mono hz1)
    have HE2 : Hid (Env w2) := HE1.out.stays hb2
    have hz2 := hb2.size
    have Hb12 := Lib.hid hb12
    clear hb2 hb12 q0 q1 q2
    go_wp2_with fail
    refine (text_any _ l w2 (H.out.stays HB2.out) HF.out Hwl.out HE2.out).mono ?_
    intro e w3 ht
    obtain ⟨T, E, hTE⟩ := textPost_val l
    obtain ⟨rfl, hb3⟩ := hTE _ _ _ ht
    have HTE := Lib.hid hTE
    have HB3 := Lib.hid (HB2.out.trans (hb3.mono HB2.out.size))
    obtain ⟨q0, q1, q2⟩ := HC.out w3 (Hb12.out.trans (hb3.mono (by omega)))
    have HE3 : Hid (Env w3) := HE2.out.stays hb3
    clear hb3 hTE ht
    go_wp2_with fail
    refine (reftext_any _ l w3 (H.out.stays HB3.out) HF.out Hwl.out).mono ?_
    intro e w4 ht
    obtain ⟨rfl, hb4⟩ := HTE.out _ _ _ ht
    have HB4 := Lib.hid (HB3.out.trans (hb4.mono HB3.out.size))
    have HE4 : Hid (Env w4) := HE3.out.stays hb4
    clear hb4 ht
    go_wp2_with fail
    refine (known_any w4 HE4.out).mono ?_
    rintro e w5 ⟨rfl, hb5⟩
    go_wp2_with fail
    go_ret
    exact ⟨rfl, HB4.out.trans (hb5.mono HB4.out.size)⟩
  · have hkd : decide ((3000 : Int) < (k : Int)) = true := decide_eq_true (by omega)
    have hkd2 : decide (3000 < k) = true := decide_eq_true (by omega)
    clear hk3
    go_wp2_with fail
    refine (known_any w1 HE1.out).mono ?_
    rintro e w2 ⟨rfl, hb2⟩
    go_wp2_with fail
    go_ret
    exact ⟨rfl, HB1.out.trans (hb2.mono HB1.out.size)⟩
end Go.Proofs.YtigfogpfcbcdhaaGreatDoor
