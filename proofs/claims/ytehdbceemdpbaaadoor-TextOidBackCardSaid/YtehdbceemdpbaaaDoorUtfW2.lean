/- The walks of Utf8 of the reference and of the program: whether no byte is broken. -/
import Derived.Test.YtehdbceemdpbaaaDoorUtfW
import Derived.Lib.OthersKept
namespace Go.Proofs.YtehdbceemdpbaaaDoor
open Go Go.RowKit

theorem width_pos (s : ByteArray) (pos : Nat) (h : pos < s.size) : 1 ≤ (Utf8.decode s pos).2 := by
  by_cases ha : (s[pos]'h).toNat < 128
  · rw [decode_ascii s pos h ha]
    exact Nat.le_refl _
  · exact (decode_high s pos h (by omega)).2
theorem width_le (s : ByteArray) (pos : Nat) (h : pos < s.size) : pos + (Utf8.decode s pos).2 ≤ s.size := by
  rw [Lib.decode_at]
  unfold Lib.decodeN
  repeat' split
  all_goals simp only []
  all_goals omega
/-- The reference's character from a place on. -/
theorem chr_at (s : ByteArray) (pos : Nat) : Utf.chr (s.extract pos s.size) = if Utf8.decode s pos = (65533, 1) then (0, 0) else (((Utf8.decode s pos).1 : Int), ((Utf8.decode s pos).2 : Int)) := by
  rw [Utf.chr_decode, Utf.decode_extract]
set_option maxHeartbeats 1000000 in
theorem refutf8_any (s : ByteArray) (w : World) (hs : s.size ≤ 1000000) :
    Calls Tryd.prog 27 #[.string s] w fun e w' => e = .returned (.bool (Utf.ok s)) ∧ w = w' := by
  go_enter Tryd.func27, Tryd.ntmps27
  go_wp2_with fail
  go_loop [3] (fun t3 => ∃ pos f : Nat, t3 = .int .i64 pos ∧ pos ≤ s.size ∧ Hid (Utf.okFrom s f pos = Utf.ok s ∧ s.size ≤ pos + f)) (fun t3 => s.size - (intOf t3).toNat)
  case atStart => exact ⟨0, s.size, rfl, by omega, rfl, by omega⟩
  case round =>
    obtain ⟨pos, f, rfl, hp, HI⟩ := hrel
    by_cases hlt : pos < s.size
    · have hz : (s.extract pos s.size).size = s.size - pos := by simp
      have hz1 : 0 < (s.extract pos s.size).size := by omega
      have hz2 : (s.extract pos s.size).size ≤ 1000000 := by omega
      have hc := chr_at s pos
      have hwp := width_pos s pos hlt
      have hwl := width_le s pos hlt
      obtain ⟨f', rfl⟩ : ∃ f', f = f' + 1 := ⟨f - 1, by have := HI.out.2; omega⟩
      obtain ⟨c, n, hcn⟩ : ∃ c n, Utf8.decode s pos = (c, n) := ⟨_, _, rfl⟩
      have hstep : Utf.okFrom s (f' + 1) pos = if Utf8.decode s pos = (65533, 1) then false else Utf.okFrom s f' (pos + (Utf8.decode s pos).2) := by simp [Utf.okFrom, hlt]
      rw [hcn] at hc hwp hwl hstep
      clear hz
      by_cases hb : (c, n) = (65533, 1)
      · rw [if_pos hb] at hc hstep
        have Hf : Hid (Utf.ok s = false) := by show _ = _; rw [← HI.out.1, hstep]
        have Hc := Lib.hid hc
        clear hc hstep hcn hb
        go_wp2_with (go_at_call 58; refine (char_any _ _ hz1 hz2).mono ?_; rintro e w' ⟨rfl, rfl⟩; rw [Hc.out])
        go_ret
        exact ⟨by rw [Hf.out]; rfl, rfl⟩
      · rw [if_neg hb] at hc hstep
        have Hf : Hid (Utf.okFrom s f' (pos + n) = Utf.ok s ∧ s.size ≤ pos + n + f') := ⟨by rw [← hstep]; exact HI.out.1, by have := HI.out.2; simp at hwp; omega⟩
        have Hc := Lib.hid hc
        have hn0 : 1 ≤ n := hwp
        have hn1 : pos + n ≤ s.size := hwl
        clear hc hstep hcn hb hwp hwl
        go_wp2_with (go_at_call 58; refine (char_any _ _ hz1 hz2).mono ?_; rintro e w' ⟨rfl, rfl⟩; rw [Hc.out])
        go_round
        case rel => exact ⟨pos + n, f', by go_num, hn1, Hf⟩
        case measure => simp [intOf]; omega
    · have Hf : Hid (Utf.ok s = true) := by show _ = _; rw [← HI.out.1]; exact Utf.okFrom_end s f pos hlt
      go_wp2_with fail
      go_ret
      exact ⟨by rw [Hf.out]; rfl, rfl⟩

theorem decodeGo_at (s : ByteArray) (pos : Nat) (h : pos < s.size) : Lib.decodeGo (s.extract pos s.size) = Utf8.decode s pos := by
  unfold Lib.decodeGo
  rw [if_neg (by simp; omega), Utf.decode_extract]
theorem tabs_iter {w wr : World} {g3 g4 : Nat} (hT : Lib.Utf8Tabs g3 g4 w) (hb : Below w.heap.size w wr) : Lib.Utf8Tabs g3 g4 wr := Go.Proofs.Utf8Tabs_below hT hb
set_option maxHeartbeats 1000000 in
set_option maxRecDepth 100000 in
theorem utf8_any (s : ByteArray) (w : World) (hs : s.size ≤ 1000000) (hT : Lib.Utf8Tabs 0 1 w) :
    Calls Tryd.prog 31 #[.string s] w fun e w' => e = .returned (.bool (Utf.ok s)) ∧ Below w.heap.size w w' := by
  have HT := Lib.hid hT
  clear hT
  go_enter Tryd.func31, Tryd.ntmps31
  go_wp2_with fail
  go_loopw [] (fun wr => ∃ pos f : Nat, wr.heap[w.heap.size]? = some (.stringIter s pos) ∧ Below w.heap.size w wr ∧ Hid (Utf.okFrom s f pos = Utf.ok s ∧ s.size ≤ pos + f)) (fun wr => s.size - wr.iterPos w.heap.size)
  case atStart =>
    refine ⟨0, s.size, ?_, (Below.refl _ w).alloc (Nat.le_refl _) _, rfl, by omega⟩
    exact World.iter_heap w s 0
  case round =>
    obtain ⟨pos, f, hit, hb, HI⟩ := hrel
    by_cases hlt : pos < s.size
    · have hnx : ∀ ty, (Instr.next (.pointer (some ⟨w.heap.size, 0, none⟩)) true ty).run Tryd.prog wr = _ := fun ty => Lib.run_next_any_at wr w.heap.size s pos ty hit hlt
      have hwp := width_pos s pos hlt
      have hdl := decode_le s pos
      obtain ⟨f', rfl⟩ : ∃ f', f = f' + 1 := ⟨f - 1, by have := HI.out.2; omega⟩
      have hstep : Utf.okFrom s (f' + 1) pos = if Utf8.decode s pos = (65533, 1) then false else Utf.okFrom s f' (pos + (Utf8.decode s pos).2) := by simp [Utf.okFrom, hlt]
      have hdg := decodeGo_at s pos hlt
      obtain ⟨c, n, hcn⟩ : ∃ c n, Utf8.decode s pos = (c, n) := ⟨_, _, rfl⟩
      rw [hcn] at hnx hwp hdl hstep hdg
      have hit2 := Lib.iterAt_heap wr w.heap.size s pos (pos + n) hit
      have hb2 := Lib.below_iterAt hb (k := w.heap.size) (Nat.le_refl _) s (pos + n)
      have hip : wr.iterPos w.heap.size = pos := by simp [World.iterPos, hit]
      have Hip := Lib.hid hip
      have Hit2 := Lib.hid hit2
      have hT2 := Lib.hid (tabs_iter HT.out hb2)
      clear hit hip hit2
      simp only [] at hnx hwp hdl
      by_cases h3 : c = 65533
      · subst h3
        have Hdg := Lib.hid hdg
        clear hdg hcn
        by_cases h1 : n = 1
        · subst h1
          have Hf : Hid (Utf.ok s = false) := by show _ = _; rw [← HI.out.1, hstep, if_pos rfl]
          clear hstep hdl hwp
          go_wp2_with (go_at_call 59; refine (Tryd.utf8_DecodeRuneInString _ _ hT2.out).mono ?_; rintro e w3 ⟨rfl, hb3⟩; rw [Hdg.out])
          go_ret
          exact ⟨by rw [Hf.out]; rfl, hb2.trans (hb3.mono hb2.size)⟩
        · have hne : ((n : Int) == 1) = false := by simp; omega
          have Hf : Hid (Utf.okFrom s f' (pos + n) = Utf.ok s ∧ s.size ≤ pos + n + f') := ⟨by rw [← HI.out.1, hstep, if_neg (by intro h; injection h with _ h; exact h1 h)], by have := HI.out.2; omega⟩
          clear hstep h1
          go_wp2_with (go_at_call 59; refine (Tryd.utf8_DecodeRuneInString _ _ hT2.out).mono ?_; rintro e w3 ⟨rfl, hb3⟩; rw [Hdg.out])
          have hit3 : w3.heap[w.heap.size]? = some (.stringIter s (pos + n)) := (hb3.block _ (by rw [Lib.iterAt_size]; have := (Array.getElem?_eq_some_iff.1 Hit2.out).1; rw [Lib.iterAt_size] at this; exact this)).trans Hit2.out
          go_roundw
          case rel => exact ⟨pos + n, f', hit3, hb2.trans (hb3.mono hb2.size), Hf⟩
          case measure => rw [Hip.out]; simp only [World.iterPos, hit3]; omega
      · have hne : ((c : Int) == 65533) = false := by simp; omega
        have Hf : Hid (Utf.okFrom s f' (pos + n) = Utf.ok s ∧ s.size ≤ pos + n + f') := ⟨by rw [← HI.out.1, hstep, if_neg (by intro h; injection h with h _; exact h3 h)], by have := HI.out.2; omega⟩
        clear hstep h3 hdg hcn
        go_wp2_with fail
        go_roundw
        case rel => exact ⟨pos + n, f', Hit2.out, hb2, Hf⟩
        case measure => rw [Hip.out]; simp only [World.iterPos, Hit2.out]; omega
    · have hnx : ∀ ty, (Instr.next (.pointer (some ⟨w.heap.size, 0, none⟩)) true ty).run Tryd.prog wr = _ := fun ty => Lib.run_next_end_at wr w.heap.size s pos ty hit hlt
      have Hf : Hid (Utf.ok s = true) := by show _ = _; rw [← HI.out.1]; exact Utf.okFrom_end s f pos hlt
      go_wp2_with fail
      go_ret
      exact ⟨by rw [Hf.out]; rfl, hb⟩
end Go.Proofs.YtehdbceemdpbaaaDoor
