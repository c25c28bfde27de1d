/- The walk of the program's Fold: any text, folded. -/
import Derived.Test.YtehdbceemdpbaaaDoorUtfW2
import Derived.Test.YtehdbceemdpbaaaDoorBuild
import Derived.Test.YtehdbceemdpbaaaDoorFold
namespace Go.Proofs.YtehdbceemdpbaaaDoor
open Go Go.RowKit

theorem ok_here {s : ByteArray} {f pos : Nat} (h : Utf.okFrom s f pos = true) (hf : s.size ≤ pos + f) (hlt : pos < s.size) : Utf8.decode s pos ≠ (65533, 1) ∧ ∃ f', f = f' + 1 ∧ Utf.okFrom s f' (pos + (Utf8.decode s pos).2) = true := by
  obtain ⟨f', rfl⟩ : ∃ f', f = f' + 1 := ⟨f - 1, by omega⟩
  simp only [Utf.okFrom, if_pos hlt] at h
  by_cases hb : Utf8.decode s pos = (65533, 1)
  · rw [if_pos hb] at h; cases h
  · rw [if_neg hb] at h; exact ⟨hb, f', rfl, h⟩
theorem enc_cells (r : Int) (p : List UInt8) : Lib.byteCells p ++ Lib.runeCells r = Lib.byteCells (p ++ Lib.encodeRune r) := by
  rw [Lib.byteCells_append, Lib.byteCells_encodeRune]
set_option maxHeartbeats 4000000 in
set_option maxRecDepth 1000000 in
theorem fold_any (s : ByteArray) (w : World) (hs : s.size ≤ 1000000) (hT : Lib.Utf8Tabs 0 1 w) :
    Calls Tryd.prog 15 #[.string s] w fun e w' => e = .returned (.string (Fd.fold s)) ∧ Below w.heap.size w w' := by
  have HT := Lib.hid hT
  clear hT
  by_cases hok : Utf.ok s = true
  · have Hok := Lib.hid hok
    have Hfold : Hid (Fd.fold s = ⟨(Fd.foldL s.data.toList).toArray⟩) := by show _ = _; unfold Fd.fold; rw [if_pos hok]
    clear hok
    go_enter Tryd.func15, Tryd.ntmps15
    go_wp2_with fail
    refine (utf8_any s _ hs HT.out).mono ?_
    rintro e w1 ⟨rfl, B1⟩
    rw [Hok.out]
    go_wp2_with fail
    go_loopw [4] (fun t4 wr => ∃ (pos f : Nat) (p : List UInt8) (gap : Bool), t4 = .bool gap ∧ Lib.IsBuilderF 51 5 w1.heap.size w1.heap.size (Lib.byteCells p) wr ∧ wr.heap[w1.heap.size + 1]? = some (.stringIter s pos) ∧ Below w1.heap.size w1 wr ∧ Hid (Fd.Inv s pos p gap ∧ Utf.okFrom s f pos = true ∧ s.size ≤ pos + f ∧ pos ≤ s.size)) (fun _ wr => s.size - wr.iterPos (w1.heap.size + 1))
    case atStart =>
      refine ⟨0, s.size, [], false, rfl, (Lib.IsBuilderF.of (Lib.fresh_isBuilder 51 5 w1)).alloc _, ?_, ((Below.refl _ w1).alloc (Nat.le_refl _) _).alloc (by simp) _, Fd.Inv.start s, Hok.out, by omega, by omega⟩
      have := World.iter_heap (w1.alloc (.cells #[.pointer none, .slice none 0 0] 51)) s 0
      simpa using this
    case round =>
      obtain ⟨pos, f, p, gap, rfl, hI, hit, hbw, HI⟩ := hrel
      have hsz : w1.heap.size + 1 < wr.heap.size := (Array.getElem?_eq_some_iff.1 hit).1
      by_cases hp : pos < s.size
      · have hnx : ∀ ty, (Instr.next (.pointer (some ⟨w1.heap.size + 1, 0, none⟩)) true ty).run Tryd.prog wr = _ := fun ty => Lib.run_next_any_at wr (w1.heap.size + 1) s pos ty hit hp
        have hwl := width_le s pos hp
        have hwp := width_pos s pos hp
        have hd1 := decode_le s pos
        obtain ⟨hv, f', rfl, hf'⟩ := ok_here HI.out.2.1 HI.out.2.2.1 hp
        have Hst := Lib.hid (HI.out.1.step hp hv)
        have hpl : p.length ≤ 2 * pos := HI.out.1.len
        have Hrest : Hid (Utf.okFrom s f' (pos + (Utf8.decode s pos).2) = true ∧ s.size ≤ pos + (Utf8.decode s pos).2 + f' ∧ pos + (Utf8.decode s pos).2 ≤ s.size) := ⟨hf', by have := HI.out.2.2.1; omega, hwl⟩
        have hI2 := hI.iterAt hit (pos + (Utf8.decode s pos).2)
        have hit2 := Lib.iterAt_heap wr (w1.heap.size + 1) s pos (pos + (Utf8.decode s pos).2) hit
        have hbw2 := Lib.below_iterAt hbw (k := w1.heap.size + 1) (by omega) s (pos + (Utf8.decode s pos).2)
        have hsz2 : w1.heap.size ≤ (wr.iterAt (w1.heap.size + 1) s (pos + (Utf8.decode s pos).2)).heap.size := by rw [Lib.iterAt_size]; omega
        have Hit := Lib.hid hit
        have Hit2 := Lib.hid hit2
        have HI2 := Lib.hid hI2
        have Hbw2 := Lib.hid hbw2
        clear hit hit2 hI2 hbw2 hf' hv hI
        obtain ⟨r, hr⟩ : ∃ r : Nat, r = (Utf8.decode s pos).1 := ⟨_, rfl⟩
        obtain ⟨n, hn⟩ : ∃ n : Nat, n = (Utf8.decode s pos).2 := ⟨_, rfl⟩
        rw [← hr] at hnx hd1 Hst
        rw [← hn] at hnx hwl hwp Hst Hrest Hit2 HI2 Hbw2 hsz2
        clear hr hn
        by_cases h32 : (r : Int) = 32
        · have h32' : ((r : Int) == 32) = true := by simpa using h32
          have Hs2 : Hid (Fd.Rel p (decide (0 < p.length)) ((s.data.toList.take (pos + n)).foldl Fd.stepR [])) := by
            have := Hst.out; rw [h32] at this; show Fd.Rel _ _ _; simpa [Fd.stepP] using this
          clear h32
          go_wp2_with (go_at_call 42; refine (Tryd.Builder_Len_f w1.heap.size w1.heap.size _ _ HI2.out).mono ?_; rintro e w3 ⟨rfl, rfl⟩)
          go_roundw
          case rel => exact ⟨pos + n, f', p, decide (0 < p.length), by rw [Lib.byteCells_length], HI2.out, Hit2.out, Hbw2.out, Fd.Inv.mk' Hs2.out, Hrest.out.1, Hrest.out.2.1, Hrest.out.2.2⟩
          case measure => simp only [World.iterPos, Hit2.out, Hit.out]; omega
        · have h32' : ((r : Int) == 32) = false := by simpa using h32
          have Hs2 : Hid (Fd.Rel ((if gap then p ++ [32] else p) ++ Lib.encodeRune (Fd.lowN r)) false ((s.data.toList.take (pos + n)).foldl Fd.stepR [])) := by
            have := Hst.out; show Fd.Rel _ _ _; simpa [Fd.stepP, h32] using this
          clear h32
          by_cases hcap : 65 ≤ (r : Int) ∧ (r : Int) ≤ 90
          · have hlow : Fd.lowN (r : Int) = (r : Int) + 32 := by unfold Fd.lowN; rw [if_pos hcap]
            rw [hlow] at Hs2
            clear hlow
            cases gap
            · go_wp2_with fail
              refine (writeRune_k w1.heap.size w1.heap.size _ _ (by omega) (by omega) _ HI2.out (by rw [Lib.byteCells_length]; omega) hsz2).mono ?_
              rintro e W1 ⟨rfl, g1, b1, k1⟩
              have hit3 := k1.iter Hit2.out (by omega)
              go_wp2_with fail
              go_roundw
              case rel => exact ⟨pos + n, f', p ++ Lib.encodeRune ((r : Int) + 32), false, rfl, by rw [← enc_cells]; exact Or.inr g1, hit3, Hbw2.out.trans b1, Fd.Inv.mk' Hs2.out, Hrest.out.1, Hrest.out.2.1, Hrest.out.2.2⟩
              case measure => simp only [World.iterPos, hit3, Hit.out]; omega
            · go_wp2_with fail
              refine (writeByte_k w1.heap.size w1.heap.size _ 32 _ HI2.out (by rw [Lib.byteCells_length]; omega) hsz2).mono ?_
              rintro e W1 ⟨rfl, g1, b1, k1⟩
              have hit3 := Lib.hid (k1.iter Hit2.out (by omega))
              have G1 : Hid (Lib.IsBuilderF 51 5 w1.heap.size w1.heap.size (Lib.byteCells (p ++ [32])) W1) := by
                show Lib.IsBuilderF _ _ _ _ _ _; rw [Lib.byteCells_append]; exact Or.inr g1
              have hz3 := b1.size
              clear g1
              go_wp2_with fail
              refine (writeRune_k w1.heap.size w1.heap.size _ _ (by omega) (by omega) _ G1.out (by rw [Lib.byteCells_length]; simp; omega) (by omega)).mono ?_
              rintro e W2 ⟨rfl, g2, b2, k2⟩
              have hit4 := k2.iter hit3.out (by omega)
              go_wp2_with fail
              go_roundw
              case rel => exact ⟨pos + n, f', (p ++ [32]) ++ Lib.encodeRune ((r : Int) + 32), false, rfl, by rw [← enc_cells]; exact Or.inr g2, hit4, (Hbw2.out.trans b1).trans b2, Fd.Inv.mk' Hs2.out, Hrest.out.1, Hrest.out.2.1, Hrest.out.2.2⟩
              case measure => simp only [World.iterPos, hit4, Hit.out]; omega
          · have hlow : Fd.lowN (r : Int) = (r : Int) := by unfold Fd.lowN; rw [if_neg hcap]
            rw [hlow] at Hs2
            clear hlow
            rcases (show (r : Int) < 65 ∨ 90 < (r : Int) by omega) with hc1 | hc1
            all_goals
              clear hcap
              have hc2 : (r : Int) < 65 ∨ ¬ (r : Int) < 65 := by omega
              cases gap
              · go_wp2_with fail
                refine (writeRune_k w1.heap.size w1.heap.size _ _ (by omega) (by omega) _ HI2.out (by rw [Lib.byteCells_length]; omega) hsz2).mono ?_
                rintro e W1 ⟨rfl, g1, b1, k1⟩
                have hit3 := k1.iter Hit2.out (by omega)
                go_wp2_with fail
                go_roundw
                case rel => exact ⟨pos + n, f', p ++ Lib.encodeRune (r : Int), false, rfl, by rw [← enc_cells]; exact Or.inr g1, hit3, Hbw2.out.trans b1, Fd.Inv.mk' Hs2.out, Hrest.out.1, Hrest.out.2.1, Hrest.out.2.2⟩
                case measure => simp only [World.iterPos, hit3, Hit.out]; omega
              · go_wp2_with fail
                refine (writeByte_k w1.heap.size w1.heap.size _ 32 _ HI2.out (by rw [Lib.byteCells_length]; omega) hsz2).mono ?_
                rintro e W1 ⟨rfl, g1, b1, k1⟩
                have hit3 := Lib.hid (k1.iter Hit2.out (by omega))
                have G1 : Hid (Lib.IsBuilderF 51 5 w1.heap.size w1.heap.size (Lib.byteCells (p ++ [32])) W1) := by
                  show Lib.IsBuilderF _ _ _ _ _ _; rw [Lib.byteCells_append]; exact Or.inr g1
                have hz3 := b1.size
                clear g1
                go_wp2_with fail
                refine (writeRune_k w1.heap.size w1.heap.size _ _ (by omega) (by omega) _ G1.out (by rw [Lib.byteCells_length]; simp; omega) (by omega)).mono ?_
                rintro e W2 ⟨rfl, g2, b2, k2⟩
                have hit4 := k2.iter hit3.out (by omega)
                go_wp2_with fail
                go_roundw
                case rel => exact ⟨pos + n, f', (p ++ [32]) ++ Lib.encodeRune (r : Int), false, rfl, by rw [← enc_cells]; exact Or.inr g2, hit4, (Hbw2.out.trans b1).trans b2, Fd.Inv.mk' Hs2.out, Hrest.out.1, Hrest.out.2.1, Hrest.out.2.2⟩
                case measure => simp only [World.iterPos, hit4, Hit.out]; omega
      · have hnx : ∀ ty, (Instr.next (.pointer (some ⟨w1.heap.size + 1, 0, none⟩)) true ty).run Tryd.prog wr = _ := fun ty => Lib.run_next_end_at wr (w1.heap.size + 1) s pos ty hit hp
        have HIb := Lib.hid hI
        clear hI
        go_wp2_with fail
        refine (Tryd.Builder_String_any_k w1.heap.size w1.heap.size p _ HIb.out (by omega)).mono ?_
        rintro e W1 ⟨rfl, _, b1, _⟩
        go_wp2_with fail
        go_ret
        exact ⟨by rw [Hfold.out, HI.out.1.fin (by omega)]; rfl, B1.trans ((hbw.trans b1).mono B1.size)⟩
  · have hno : Utf.ok s = false := by simpa using hok
    have Hok := Lib.hid hno
    have Hfold : Hid (Fd.fold s = s) := by show _ = _; unfold Fd.fold; rw [if_neg (by rw [hno]; simp)]
    clear hok hno
    go_enter Tryd.func15, Tryd.ntmps15
    go_wp2_with fail
    refine (utf8_any s _ hs HT.out).mono ?_
    rintro e w1 ⟨rfl, B1⟩
    rw [Hok.out]
    go_wp2_with fail
    go_ret
    exact ⟨by rw [Hfold.out]; rfl, B1⟩
end Go.Proofs.YtehdbceemdpbaaaDoor
