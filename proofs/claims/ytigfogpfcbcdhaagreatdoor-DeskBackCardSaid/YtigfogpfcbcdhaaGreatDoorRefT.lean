/- The walk of the reference's Text: a line's text, or none. Conditions: the line lies in memory, its numbers are some, no part of it is long. -/
import Derived.Test.YtigfogpfcbcdhaaGreatDoorRefF
set_option linter.unusedVariables false
set_option linter.unusedSimpArgs false
namespace Go.Proofs.YtigfogpfcbcdhaaGreatDoor
open Go Go.RowKit
theorem cat23 (o X : ByteArray) : (o ++ (⟨#[32]⟩ : ByteArray) ++ X).data.toList = o.data.toList ++ 32 :: X.data.toList := by simp [ByteArray.data_append]
theorem cat23_size (o X : ByteArray) : (o ++ (⟨#[32]⟩ : ByteArray) ++ X).size = o.size + 1 + X.size := by
  show (o ++ (⟨#[32]⟩ : ByteArray) ++ X).data.toList.length = o.data.toList.length + 1 + X.data.toList.length
  rw [cat23]; simp; omega
/-- After so many letters of the form: so many numbers, so many rows of bytes are taken. -/
structure RInv (l : Dk.Ln) (F : ByteArray) (i n b : Nat) (out : ByteArray) : Prop where
  st : (F.data.toList.take i).foldl Dk.step (some (l.word, l.nums, l.bytes)) = some (out.data.toList, l.nums.drop n, l.bytes.drop b)
  hn : n ≤ l.nums.length
  hb : b ≤ l.bytes.length
  size : out.size ≤ 1000000 + 3000000 * i
theorem RInv.step {l : Dk.Ln} {F : ByteArray} {i n b : Nat} {out : ByteArray} (h : RInv l F i n b out) (hp : i < F.size) :
    (F.data.toList.take (i + 1)).foldl Dk.step (some (l.word, l.nums, l.bytes)) = Dk.step (some (out.data.toList, l.nums.drop n, l.bytes.drop b)) F[i] := by
  have e : F.data.toList.take (i + 1) = F.data.toList.take i ++ [F[i]] := List.take_succ_eq_append_getElem (l := F.data.toList) hp
  rw [e, List.foldl_append, h.st]; rfl
theorem fold_none {F : ByteArray} {i : Nat} {s0 : Option Dk.TSt} (h : (F.data.toList.take i).foldl Dk.step s0 = none) : F.data.toList.foldl Dk.step s0 = none := by
  rw [← List.take_append_drop i F.data.toList, List.foldl_append, h, Dk.step_none]
theorem RInv.no {l : Dk.Ln} {F : ByteArray} {i n b : Nat} {out : ByteArray} (h : RInv l F i n b out) (hf : Dk.formL l.word = some F.data.toList) (hp : i < F.size) (hs : Dk.step (some (out.data.toList, l.nums.drop n, l.bytes.drop b)) F[i] = none) : Dk.txt l = none := by
  have := fold_none (by rw [h.step hp, hs] : (F.data.toList.take (i + 1)).foldl Dk.step (some (l.word, l.nums, l.bytes)) = none)
  unfold Dk.txt
  rw [hf]
  simp only [this]
  rfl
theorem RInv.end_ {l : Dk.Ln} {F : ByteArray} {n b : Nat} {out : ByteArray} (h : RInv l F F.size n b out) (hf : Dk.formL l.word = some F.data.toList) : Dk.txt l = if n < l.nums.length ∨ b < l.bytes.length then none else some out.data.toList := by
  have e : F.data.toList.take F.size = F.data.toList := List.take_of_length_le (by show F.data.toList.length ≤ F.size; exact Nat.le_refl _)
  have hst := h.st
  rw [e] at hst
  unfold Dk.txt
  rw [hf]
  simp only [hst]
  by_cases h1 : n < l.nums.length
  · rw [if_pos (.inl h1)]
    obtain ⟨x, t, hx⟩ : ∃ x t, l.nums.drop n = x :: t := ⟨_, _, List.drop_eq_getElem_cons h1⟩
    rw [hx]; rfl
  · by_cases h2 : b < l.bytes.length
    · rw [if_pos (.inr h2)]
      obtain ⟨x, t, hx⟩ : ∃ x t, l.bytes.drop b = x :: t := ⟨_, _, List.drop_eq_getElem_cons h2⟩
      rw [hx]
      cases l.nums.drop n <;> rfl
    · rw [if_neg (by omega), List.drop_eq_nil_of_le (by omega), List.drop_eq_nil_of_le (by omega)]; rfl
theorem fits_same (c : UInt8) (n : Int) (w : World) (b : Bool) (hb : Dk.okNum c n = b) (hc : c = 110 ∨ c = 107 ∨ c = 114) (h0 : -9223372036854775808 ≤ n) (h1 : n ≤ 9223372036854775807) (k : Nat) :
    Calls Tryz.prog 30 #[.int .u8 (c.toNat : Int), .int .i64 n] (w.drewN k) fun e w' => e = .returned (.bool b) ∧ w' = w.drewN k :=
  (fits_any c n _ hc h0 h1).mono fun _ _ ⟨h, hw⟩ => ⟨by rw [h, hb], hw.symm⟩
set_option maxHeartbeats 4000000 in
set_option maxRecDepth 100000 in
theorem reftext_loop (v : Value) (l : Dk.Ln) (F : ByteArray) (w : World) (hl : LineAt w NoAv v l) (hf : Fine l) (hw : l.word.length ≤ 100000) (hfm : Dk.formL l.word = some F.data.toList) :
    Calls Tryz.prog 15 #[v] w (TextPost l w) := by
  obtain ⟨vn, vb, rfl, hn, hb⟩ := hl
  have HF : Hid (formVal (⟨l.word.toArray⟩ : ByteArray).data.toList = .tuple #[.string F, .bool true]) := by
    have := formVal_some hfm; rw [Lib.mk_data] at this; exact this
  have Hlet : Hid (∀ (i : Nat) (h : i < F.size), F[i] = 104 ∨ F[i] = 42 ∨ F[i] = 110 ∨ F[i] = 107 ∨ F[i] = 114) := by
    intro i h
    have := Dk.form_all (p := fun _ f => f.all fun c => c == 104 || c == 42 || c == 110 || c == 107 || c == 114) (by decide +kernel) hfm
    have := List.all_eq_true.1 this F[i] (List.getElem_mem (l := F.data.toList) h)
    simpa [or_assoc] using this
  have hF9 : F.size ≤ 9 := by
    have := Dk.form_all (p := fun _ f => decide (f.length ≤ 9)) (by decide +kernel) hfm
    exact of_decide_eq_true this
  obtain ⟨s, hs⟩ : ∃ s : ByteArray, s = ⟨l.word.toArray⟩ := ⟨_, rfl⟩
  rw [← hs] at HF ⊢
  have HFm := Lib.hid hfm
  have HR0 : Hid (RInv l F 0 0 0 s) := ⟨by rw [hs]; rfl, Nat.zero_le _, Nat.zero_le _, by rw [hs]; show l.word.length ≤ _; omega⟩
  obtain ⟨An, cn, rfl, hcn, hnums⟩ := hn.nums
  obtain ⟨Ab, cb, rfl, hcb, hrows⟩ := hb.rows
  have Hnums := Lib.hid hnums
  have Hrows := Lib.hid hrows
  have Hi64 := Lib.hid hf.nums
  have Hshort := Lib.hid hf.lb
  have hnn := hf.nn
  have hnb := hf.nb
  obtain ⟨N, hN⟩ : ∃ N, N = l.nums.length := ⟨_, rfl⟩
  obtain ⟨M, hM⟩ : ∃ M, M = l.bytes.length := ⟨_, rfl⟩
  rw [← hN] at hcn hnn
  rw [← hM] at hcb hnb
  rw [← hN, ← hM]
  have HN := Lib.hid hN
  have HM := Lib.hid hM
  clear hn hb hs hf hfm hw hnums hrows hN hM
  go_enter Tryz.func15, Tryz.ntmps15
  go_wp2_with fail
  refine (refform_any s _).mono ?_
  rintro e w1 ⟨rfl, hb1⟩
  rw [HF.out]
  have hc0 : w1.cell? ⟨w.heap.size, 0, none⟩ = some (.string s) := by rw [hb1.cell (by simp), World.cell?_alloc_new]; rfl
  have hc1 : w1.cell? ⟨w.heap.size, 1, none⟩ = some (.slice An N cn) := by rw [hb1.cell (by simp), World.cell?_alloc_new]; rfl
  have hc2 : w1.cell? ⟨w.heap.size, 2, none⟩ = some (.slice Ab M cb) := by rw [hb1.cell (by simp), World.cell?_alloc_new]; rfl
  have HB : Hid (Below w.heap.size w w1 ∧ w.heap.size < w1.heap.size) := ⟨((Below.refl _ w).alloc (Nat.le_refl _) _).trans (hb1.mono (by simp)), by have := hb1.size; simp at this; omega⟩
  have HC1 := Lib.hid hc1
  have HC2 := Lib.hid hc2
  clear hb1
  go_wp2_with fail
  clear hc0 hc1 hc2
  go_loopw [6, 7, 8, 9] (fun t6 t7 t8 t9 wr => ∃ (i n b : Nat) (out : ByteArray), t6 = .string out ∧ t7 = .int .i64 n ∧ t8 = .int .i64 b ∧ t9 = .int .i64 i ∧ i ≤ F.size ∧ n ≤ N ∧ b ≤ M ∧ out.size ≤ 1000000 + 3000000 * i ∧ Hid (RInv l F i n b out ∧ Below w1.heap.size w1 wr)) (fun _ _ _ t9 _ => F.size - (intOf t9).toNat)
  case atStart => exact ⟨0, 0, 0, s, rfl, rfl, rfl, rfl, Nat.zero_le _, Nat.zero_le _, Nat.zero_le _, HR0.out.size, HR0.out, Below.refl _ _⟩
  case round =>
    obtain ⟨i, n, b, out, rfl, rfl, rfl, rfl, hi, hnN, hbM, hoz, HI⟩ := hrel
    have hq1 : wr.cell? ⟨w.heap.size, 1, none⟩ = some (.slice An N cn) := cell_stays HI.out.2 HC1.out
    have hq2 : wr.cell? ⟨w.heap.size, 2, none⟩ = some (.slice Ab M cb) := cell_stays HI.out.2 HC2.out
    have hBw := Lib.hid (HB.out.1.trans (HI.out.2.mono (by have := HB.out.2; omega)))
    by_cases hp : i < F.size
    · have Hno := Lib.hid (fun h => HI.out.1.no HFm.out hp h)
      have Hst := Lib.hid (HI.out.1.step hp)
      have hlet := Hlet.out i hp
      obtain ⟨c, hc⟩ : ∃ c : UInt8, F[i] = c := ⟨_, rfl⟩
      rw [hc] at Hno Hst hlet
      rcases hlet with rfl | rfl | hlet
      · have HM0 : Hid (b = M → Dk.txt l = none) := fun h => Hno.out (by rw [show l.bytes.drop b = [] from List.drop_eq_nil_of_le (by rw [← HM.out]; omega)]; rfl)
        by_cases hbM2 : b = M
        · have hd1 : decide ((M : Int) ≤ (b : Int)) = true := decide_eq_true (by omega)
          have hd2 : decide (M ≤ b) = true := decide_eq_true (by omega)
          have Hf := Lib.hid (HM0.out hbM2)
          clear hbM2
          go_wp2_with fail
          go_loopw [6, 8, 11] (fun t6 t8 t11 wx => t6 = .string out ∧ t8 = .int .i64 b ∧ t11 = .int .i64 0 ∧ wx = wr) (fun _ _ _ _ => 0)
          case atStart => exact ⟨rfl, rfl, rfl, rfl⟩
          case round =>
            obtain ⟨rfl, rfl, rfl, rfl⟩ := hrel
            go_wp2_with fail
            go_ret2
            exact text_no Hf.out rfl hBw.out
        · have HK : Hid (b + 1 ≤ M) := by show _ ≤ _; omega
          have Hs : Hid (∀ (o : ByteArray) (b2 : Nat), o.data.toList = out.data.toList ++ Dk.join (((l.bytes.drop b).take 1).map Dk.hexT) → b2 = b + 1 → Dk.step (some (out.data.toList, l.nums.drop n, l.bytes.drop b)) 104 = some (o.data.toList, l.nums.drop n, l.bytes.drop b2)) := by
            intro o b2 ho hb2
            have hlt : b < l.bytes.length := by rw [← HM.out]; omega
            obtain ⟨x, t, e, e2⟩ : ∃ x t, l.bytes.drop b = x :: t ∧ l.bytes.drop (b + 1) = t := ⟨_, _, List.drop_eq_getElem_cons hlt, rfl⟩
            rw [e] at ho
            rw [hb2, ho, e, e2]; simp [Dk.step, Dk.join]
          clear hbM2
          go_wp2_with fail
          go_loopw [6, 8, 11] (fun t6 t8 t11 wx => ∃ (j b2 : Nat) (o : ByteArray), t6 = .string o ∧ t8 = .int .i64 b2 ∧ t11 = .int .i64 j ∧ Hid (b2 = b + j) ∧ b2 ≤ M ∧ j ≤ 1 ∧ o.size ≤ 1000000 + 3000000 * i + 140000 * j ∧ Hid (o.data.toList = out.data.toList ++ Dk.join (((l.bytes.drop b).take j).map Dk.hexT) ∧ Below w1.heap.size w1 wx)) (fun _ _ t11 _ => 1 - (intOf t11).toNat)
          case atStart => exact ⟨0, b, out, rfl, rfl, rfl, (by show b = b + 0; rfl), hbM, Nat.zero_le _, by omega, by simp [Dk.join], HI.out.2⟩
          case round =>
            obtain ⟨j, b2, o, rfl, rfl, rfl, Hb2, hb2m, hjK, hoz2, HJ⟩ := hrel
            have hKb := HK.out
            by_cases hj : j < 1
            · have hb2M : b2 < M := by have := Hb2.out; omega
              have hd1 : decide ((M : Int) ≤ (b2 : Int)) = false := decide_eq_false (by omega)
              have hd2 : decide (M ≤ b2) = false := decide_eq_false (by omega)
              have hBx := Lib.hid (HB.out.1.trans (HJ.out.2.mono (by have := HB.out.2; omega)))
              obtain ⟨g, og, A', c2, rfl, _, hcell, hc2', hreads⟩ := Hrows.out b2 (by rw [← HM.out]; exact hb2M)
              have hshort := Hshort.out (l.bytes[b2]'(by rw [← HM.out]; exact hb2M)) (List.getElem_mem _)
              have hjoin : Dk.join (((l.bytes.drop b).take (j + 1)).map Dk.hexT) = Dk.join (((l.bytes.drop b).take j).map Dk.hexT) ++ 32 :: Dk.hexT (l.bytes[b2]'(by rw [← HM.out]; exact hb2M)) := by
                have hlt : j < (l.bytes.drop b).length := by rw [List.length_drop, ← HM.out]; omega
                rw [Dk.join_snoc _ j hlt]
                congr 3
                rw [List.getElem_drop]; congr 1; exact Hb2.out.symm
              obtain ⟨rb, hrb⟩ : ∃ rb, rb = l.bytes[b2]'(by rw [← HM.out]; exact hb2M) := ⟨_, rfl⟩
              rw [← hrb] at hcell hc2' hreads hshort hjoin
              have hcx : wr.cell? ⟨g, og + b2, none⟩ = some (.slice A' rb.length c2) := cell_stays hBx.out hcell
              have hqx : wr.cell? ⟨w.heap.size, 2, none⟩ = some (.slice (some ⟨g, og, none⟩) M cb) := cell_stays HJ.out.2 HC2.out
              have HRd := Lib.hid ((hreads.below hBx.out).more hBx.out.size)
              have hd3 : decide ((65536 : Int) < (rb.length : Int)) = false := decide_eq_false (by omega)
              have hd4 : decide (65536 < rb.length) = false := decide_eq_false (by omega)
              have Hjoin := Lib.hid hjoin
              clear hcell hreads hrb hKb hjoin
              go_wp2_with fail
              refine (refhex_any A' c2 rb wr HRd.out (by omega)).mono ?_
              rintro e wx ⟨rfl, hbx⟩
              obtain ⟨X, hX⟩ : ∃ X : ByteArray, X = ⟨(Dk.hexT rb).toArray⟩ := ⟨_, rfl⟩
              rw [← hX]
              have HX : Hid (X.data.toList = Dk.hexT rb) := by show _ = _; rw [hX]
              have hXz : X.size ≤ 131073 := by rw [hX]; show (Dk.hexT rb).length ≤ _; have := Dk.hexT_length rb; omega
              have Hbx := Lib.hid (HJ.out.2.trans (hbx.mono HJ.out.2.size))
              have Hcat : Hid ((o ++ (⟨#[32]⟩ : ByteArray) ++ X).data.toList = out.data.toList ++ Dk.join (((l.bytes.drop b).take (j + 1)).map Dk.hexT)) := by
                show _ = _; rw [cat23, HX.out, HJ.out.1, Hjoin.out, List.append_assoc]
              have hz5 : o.size + 1 + X.size ≤ 1000000 + 3000000 * i + 140000 * (j + 1) := by omega
              clear hX hbx
              go_wp2_with fail
              refine ⟨⟨j + 1, b2 + 1, _, rfl, by go_num, by go_num, (by have := Hb2.out; show b2 + 1 = b + (j + 1); omega), by omega, by omega, by rw [cat23_size]; exact hz5, Hcat.out, Hbx.out⟩, by simp [intOf]; omega⟩
            · have hoz3 : o.size ≤ 1000000 + 3000000 * (i + 1) := by omega
              have HR : Hid (RInv l F (i + 1) n b2 o) := ⟨by rw [Hst.out, Hs.out o b2 (by rw [HJ.out.1, show j = 1 by omega]) (by have := Hb2.out; omega)], HI.out.1.hn, by rw [← HM.out]; exact hb2m, hoz3⟩
              go_wp2_with fail
              refine ⟨⟨i + 1, n, b2, o, rfl, rfl, rfl, by go_num, by omega, by omega, by omega, hoz3, HR.out, HJ.out.2⟩, by simp [intOf]; omega⟩
      · have HK : Hid (b + (M - b) ≤ M) := by show _ ≤ _; omega
        by_cases h20 : M - b ≤ 20
        · have hd0 : decide ((20 : Int) < (M : Int) - (b : Int)) = false := decide_eq_false (by omega)
          have Hs : Hid (∀ (o : ByteArray) (b2 : Nat), o.data.toList = out.data.toList ++ Dk.join (((l.bytes.drop b).take (M - b)).map Dk.hexT) → b2 = M → Dk.step (some (out.data.toList, l.nums.drop n, l.bytes.drop b)) 42 = some (o.data.toList, l.nums.drop n, l.bytes.drop b2)) := by
            intro o b2 ho hb2
            have hlt : (l.bytes.drop b).length = M - b := by rw [List.length_drop, HM.out]
            rw [ho, hb2, List.take_of_length_le (by omega), show l.bytes.drop M = [] from List.drop_eq_nil_of_le (by rw [HM.out]; exact Nat.le_refl _)]
            show (if (l.bytes.drop b).length ≤ 20 then some (out.data.toList ++ Dk.join ((l.bytes.drop b).map Dk.hexT), l.nums.drop n, []) else none) = _
            rw [if_pos (by omega)]
          go_wp2_with fail
          go_loopw [6, 8, 11] (fun t6 t8 t11 wx => ∃ (j b2 : Nat) (o : ByteArray), t6 = .string o ∧ t8 = .int .i64 b2 ∧ t11 = .int .i64 j ∧ Hid (b2 = b + j) ∧ b2 ≤ M ∧ j ≤ M - b ∧ o.size ≤ 1000000 + 3000000 * i + 140000 * j ∧ Hid (o.data.toList = out.data.toList ++ Dk.join (((l.bytes.drop b).take j).map Dk.hexT) ∧ Below w1.heap.size w1 wx)) (fun _ _ t11 _ => M - b - (intOf t11).toNat)
          case atStart => exact ⟨0, b, out, rfl, rfl, rfl, (by show b = b + 0; rfl), hbM, Nat.zero_le _, by omega, by simp [Dk.join], HI.out.2⟩
          case round =>
            obtain ⟨j, b2, o, rfl, rfl, rfl, Hb2, hb2m, hjK, hoz2, HJ⟩ := hrel
            have hKb := HK.out
            by_cases hj : j < M - b
            · have hb2M : b2 < M := by have := Hb2.out; omega
              have hjI : (j : Int) < (M : Int) - (b : Int) := by omega
              have hd1 : decide ((M : Int) ≤ (b2 : Int)) = false := decide_eq_false (by omega)
              have hd2 : decide (M ≤ b2) = false := decide_eq_false (by omega)
              have hBx := Lib.hid (HB.out.1.trans (HJ.out.2.mono (by have := HB.out.2; omega)))
              obtain ⟨g, og, A', c2, rfl, _, hcell, hc2', hreads⟩ := Hrows.out b2 (by rw [← HM.out]; exact hb2M)
              have hshort := Hshort.out (l.bytes[b2]'(by rw [← HM.out]; exact hb2M)) (List.getElem_mem _)
              have hjoin : Dk.join (((l.bytes.drop b).take (j + 1)).map Dk.hexT) = Dk.join (((l.bytes.drop b).take j).map Dk.hexT) ++ 32 :: Dk.hexT (l.bytes[b2]'(by rw [← HM.out]; exact hb2M)) := by
                have hlt : j < (l.bytes.drop b).length := by rw [List.length_drop, ← HM.out]; omega
                rw [Dk.join_snoc _ j hlt]
                congr 3
                rw [List.getElem_drop]; congr 1; exact Hb2.out.symm
              obtain ⟨rb, hrb⟩ : ∃ rb, rb = l.bytes[b2]'(by rw [← HM.out]; exact hb2M) := ⟨_, rfl⟩
              rw [← hrb] at hcell hc2' hreads hshort hjoin
              have hcx : wr.cell? ⟨g, og + b2, none⟩ = some (.slice A' rb.length c2) := cell_stays hBx.out hcell
              have hqx : wr.cell? ⟨w.heap.size, 2, none⟩ = some (.slice (some ⟨g, og, none⟩) M cb) := cell_stays HJ.out.2 HC2.out
              have HRd := Lib.hid ((hreads.below hBx.out).more hBx.out.size)
              have hd3 : decide ((65536 : Int) < (rb.length : Int)) = false := decide_eq_false (by omega)
              have hd4 : decide (65536 < rb.length) = false := decide_eq_false (by omega)
              have Hjoin := Lib.hid hjoin
              clear hcell hreads hrb hKb hjoin
              go_wp2_with fail
              refine (refhex_any A' c2 rb wr HRd.out (by omega)).mono ?_
              rintro e wx ⟨rfl, hbx⟩
              obtain ⟨X, hX⟩ : ∃ X : ByteArray, X = ⟨(Dk.hexT rb).toArray⟩ := ⟨_, rfl⟩
              rw [← hX]
              have HX : Hid (X.data.toList = Dk.hexT rb) := by show _ = _; rw [hX]
              have hXz : X.size ≤ 131073 := by rw [hX]; show (Dk.hexT rb).length ≤ _; have := Dk.hexT_length rb; omega
              have Hbx := Lib.hid (HJ.out.2.trans (hbx.mono HJ.out.2.size))
              have Hcat : Hid ((o ++ (⟨#[32]⟩ : ByteArray) ++ X).data.toList = out.data.toList ++ Dk.join (((l.bytes.drop b).take (j + 1)).map Dk.hexT)) := by
                show _ = _; rw [cat23, HX.out, HJ.out.1, Hjoin.out, List.append_assoc]
              have hz5 : o.size + 1 + X.size ≤ 1000000 + 3000000 * i + 140000 * (j + 1) := by omega
              clear hX hbx
              go_wp2_with fail
              refine ⟨⟨j + 1, b2 + 1, _, rfl, by go_num, by go_num, (by have := Hb2.out; show b2 + 1 = b + (j + 1); omega), by omega, by omega, by rw [cat23_size]; exact hz5, Hcat.out, Hbx.out⟩, by simp [intOf]; omega⟩
            · have hoz3 : o.size ≤ 1000000 + 3000000 * (i + 1) := by omega
              have hjI : ¬ (j : Int) < (M : Int) - (b : Int) := by omega
              have HR : Hid (RInv l F (i + 1) n b2 o) := ⟨by rw [Hst.out, Hs.out o b2 (by rw [HJ.out.1, show j = M - b by omega]) (by have := Hb2.out; omega)], HI.out.1.hn, by rw [← HM.out]; exact hb2m, hoz3⟩
              go_wp2_with fail
              refine ⟨⟨i + 1, n, b2, o, rfl, rfl, rfl, by go_num, by omega, by omega, by omega, hoz3, HR.out, HJ.out.2⟩, by simp [intOf]; omega⟩
        · have hd0 : decide ((20 : Int) < (M : Int) - (b : Int)) = true := decide_eq_true (by omega)
          have Hf := Lib.hid (Hno.out (by
            show (if (l.bytes.drop b).length ≤ 20 then some (out.data.toList ++ Dk.join ((l.bytes.drop b).map Dk.hexT), l.nums.drop n, []) else none) = none
            rw [if_neg (by rw [List.length_drop, ← HM.out]; omega)]))
          clear h20
          go_wp2_with fail
          go_ret2
          exact text_no Hf.out rfl hBw.out
      · have hc8 : c.toNat < 256 := c.toNat_lt
        have h4 : ((c.toNat : Int) != 104) = true := by rcases hlet with rfl | rfl | rfl <;> rfl
        have h2 : ((c.toNat : Int) != 42) = true := by rcases hlet with rfl | rfl | rfl <;> rfl
        have h42 : c ≠ 104 ∧ c ≠ 42 := by rcases hlet with rfl | rfl | rfl <;> decide
        have H42 := Lib.hid h42
        have Hlet2 := Lib.hid hlet
        clear h42 hlet
        by_cases hnn2 : n < N
        · have hd1 : decide ((N : Int) ≤ (n : Int)) = false := decide_eq_false (by omega)
          obtain ⟨g, og, rfl, _, hcell⟩ := Hnums.out n (by rw [← HN.out]; exact hnn2)
          obtain ⟨n0, hn0⟩ : ∃ n0, n0 = l.nums[n]'(by rw [← HN.out]; exact hnn2) := ⟨_, rfl⟩
          rw [← hn0] at hcell
          have hr0 := Hi64.out n0 (by rw [hn0]; exact List.getElem_mem _)
          have hcx : wr.cell? ⟨g, og + n, none⟩ = some (.int .i64 n0) := cell_stays hBw.out hcell
          have hdr : l.nums.drop n = n0 :: l.nums.drop (n + 1) := by rw [hn0]; exact List.drop_eq_getElem_cons _
          have Hdr := Lib.hid hdr
          have hd2 : decide (N ≤ n) = false := decide_eq_false (by omega)
          have hl64 := Lib.itoa_length_le n0 hr0.1 hr0.2
          cases hok : Dk.okNum c n0 with
          | false =>
            have Hok := Lib.hid hok
            have Hf := Lib.hid (Hno.out (Dk.step_no H42.out.1 H42.out.2 _ _ (by rw [hdr]; simp) (by simp only [hdr]; exact hok)))
            clear hn0 hcell hdr hok
            go_wp2_with fail
            go_quiet ((go_at_call 30; exact Calls.quiet_of_same (fits_same c n0 _ false Hok.out Hlet2.out hr0.1 hr0.2 _)))
            go_wp2_with fail
            go_ret2
            exact text_no Hf.out rfl (below_drewN hBw.out _)
          | true =>
            have Hok := Lib.hid hok
            have Hs : Hid (Dk.step (some (out.data.toList, l.nums.drop n, l.bytes.drop b)) c = some (out.data.toList ++ 32 :: Lib.itoa n0, l.nums.drop (n + 1), l.bytes.drop b)) := by
              show _ = _
              rw [Dk.step_yes H42.out.1 H42.out.2 _ _ (by rw [hdr]; simp) (by simp only [hdr]; exact hok)]
              simp only [hdr]; rfl
            clear hn0 hcell hdr hok
            go_wp2_with fail
            go_quiet ((go_at_call 30; exact Calls.quiet_of_same (fits_same c n0 _ true Hok.out Hlet2.out hr0.1 hr0.2 _)))
            obtain ⟨W3, hW3⟩ : ∃ W3, W3 = wr.drewN nq := ⟨_, rfl⟩
            have hq1' : W3.cell? ⟨w.heap.size, 1, none⟩ = some (.slice (some ⟨g, og, none⟩) N cn) := by rw [hW3]; exact hq1
            have hcx' : W3.cell? ⟨g, og + n, none⟩ = some (.int .i64 n0) := by rw [hW3]; exact hcx
            have HB3 : Hid (Below w1.heap.size w1 W3) := by show Below _ _ _; rw [hW3]; exact below_drewN HI.out.2 _
            rw [← hW3]
            clear hW3 hq1 hq2 hcx
            go_wp2_with fail
            refine (numtext_any n0 W3 hr0.1 hr0.2).mono ?_
            rintro e wx ⟨rfl, hbx⟩
            obtain ⟨X, hX⟩ : ∃ X : ByteArray, X = ⟨(Lib.itoa n0).toArray⟩ := ⟨_, rfl⟩
            rw [← hX]
            have HX : Hid (X.data.toList = Lib.itoa n0) := by show _ = _; rw [hX]
            have hXz : X.size ≤ 21 := by rw [hX]; exact hl64
            have HBx := Lib.hid (HB3.out.trans (hbx.mono HB3.out.size))
            have hz5 : out.size + 1 + X.size ≤ 1000000 + 3000000 * (i + 1) := by omega
            have HR : Hid (RInv l F (i + 1) (n + 1) b (out ++ (⟨#[32]⟩ : ByteArray) ++ X)) := ⟨by rw [Hst.out, Hs.out, cat23, HX.out], by rw [← HN.out]; omega, HI.out.1.hb, by rw [cat23_size]; exact hz5⟩
            clear hX hbx
            go_wp2_with fail
            refine ⟨⟨i + 1, n + 1, b, _, rfl, by go_num, rfl, by go_num, by omega, by omega, by omega, by rw [cat23_size]; exact hz5, HR.out, HBx.out⟩, by simp [intOf]; omega⟩
        · have hd1 : decide ((N : Int) ≤ (n : Int)) = true := decide_eq_true (by omega)
          have hd2 : decide (N ≤ n) = true := decide_eq_true (by omega)
          have Hf := Lib.hid (Hno.out (Dk.step_nil H42.out.1 H42.out.2 _ _ (by rw [List.length_drop, ← HN.out]; omega)))
          go_wp2_with fail
          go_quiet (fail)
          go_wp2_with fail
          go_ret2
          exact text_no Hf.out rfl (below_drewN hBw.out _)
    · obtain rfl : i = F.size := by omega
      have He := Lib.hid (HI.out.1.end_ HFm.out)
      by_cases h1 : n < N
      · have Hf := Lib.hid (text_no (l := l) (by rw [He.out, if_pos (.inl (by rw [← HN.out]; exact h1))]) rfl hBw.out)
        have hd : decide ((n : Int) < (N : Int)) = true := decide_eq_true (by omega)
        have hd2 : decide (n < N) = true := decide_eq_true h1
        go_wp2_with fail
        go_ret2
        exact Hf.out
      · have hd : decide ((n : Int) < (N : Int)) = false := decide_eq_false (by omega)
        have hd2 : decide (n < N) = false := decide_eq_false h1
        by_cases h2 : b < M
        · have Hf := Lib.hid (text_no (l := l) (by rw [He.out, if_pos (.inr (by rw [← HM.out]; exact h2))]) rfl hBw.out)
          have hd3 : decide ((b : Int) < (M : Int)) = true := decide_eq_true (by omega)
          have hd4 : decide (b < M) = true := decide_eq_true h2
          clear h1
          go_wp2_with fail
          go_ret2
          exact Hf.out
        · have Hf := Lib.hid (text_yes (l := l) (t := out) (by rw [He.out, if_neg (by rw [← HN.out, ← HM.out]; omega)]) rfl hBw.out)
          have hd3 : decide ((b : Int) < (M : Int)) = false := decide_eq_false (by omega)
          have hd4 : decide (b < M) = false := decide_eq_false h2
          clear h1 h2
          go_wp2_with fail
          go_ret2
          exact Hf.out
set_option maxHeartbeats 1000000 in
set_option maxRecDepth 100000 in
theorem reftext_none (v : Value) (l : Dk.Ln) (w : World) (hl : LineAt w NoAv v l) (hfm : Dk.formL l.word = none) :
    Calls Tryz.prog 15 #[v] w (TextPost l w) := by
  obtain ⟨vn, vb, rfl, hn, hb⟩ := hl
  have HF : Hid (formVal (⟨l.word.toArray⟩ : ByteArray).data.toList = .tuple #[.string ⟨#[]⟩, .bool false]) := formVal_none hfm
  have Hf : Hid (∀ w', Below w.heap.size w w' → TextPost l w (.returned (.tuple #[.string ⟨#[]⟩, .int .i64 120])) w') := fun w' hB => text_no (by unfold Dk.txt; rw [hfm]) rfl hB
  obtain ⟨s, hs⟩ : ∃ s : ByteArray, s = ⟨l.word.toArray⟩ := ⟨_, rfl⟩
  rw [← hs] at HF ⊢
  obtain ⟨An, cn, rfl, _, _⟩ := hn.nums
  obtain ⟨Ab, cb, rfl, _, _⟩ := hb.rows
  clear hn hb hs hfm
  go_enter Tryz.func15, Tryz.ntmps15
  go_wp2_with fail
  refine (refform_any s _).mono ?_
  rintro e w1 ⟨rfl, hb1⟩
  rw [HF.out]
  have HB := Lib.hid (((Below.refl _ w).alloc (Nat.le_refl _) (.cells #[.string s, .slice An l.nums.length cn, .slice Ab l.bytes.length cb] 30)).trans (hb1.mono (by simp)))
  clear hb1
  go_wp2_with fail
  go_ret2
  exact Hf.out _ HB.out
/-- The reference's Text of any line. -/
theorem reftext_any (v : Value) (l : Dk.Ln) (w : World) (hl : LineAt w NoAv v l) (hf : Fine l) (hw : l.word.length ≤ 100000) :
    Calls Tryz.prog 15 #[v] w (TextPost l w) := by
  cases hfm : Dk.formL l.word with
  | none => exact reftext_none v l w hl hfm
  | some f => exact reftext_loop v l ⟨f.toArray⟩ w hl hf hw (by rw [hfm])
end Go.Proofs.YtigfogpfcbcdhaaGreatDoor
