/- Which texts a text may be: the walks of Printable and Ia5, the program's and the reference's. -/
import Derived.Test.YtehdbceemdpbaaaDoorFolds
namespace Go.Proofs.YtehdbceemdpbaaaDoor
open Go Go.RowKit

namespace St
def iaC (c : UInt8) : Bool := decide (c.toNat ≤ 127)
def more : List Nat := [32, 39, 40, 41, 43, 44, 45, 46, 47, 58, 61, 63]
def prC (c : UInt8) : Bool := decide ((65 ≤ c.toNat ∧ c.toNat ≤ 90) ∨ (97 ≤ c.toNat ∧ c.toNat ≤ 122) ∨ (48 ≤ c.toNat ∧ c.toNat ≤ 57) ∨ c.toNat ∈ more)
def ia (s : ByteArray) : Bool := s.data.toList.all iaC
def pr (s : ByteArray) : Bool := s.data.toList.all prC
theorem all_bad {f : UInt8 → Bool} {s : ByteArray} {pos : Nat} (h : pos < s.size) (hb : f s[pos] = false) : s.data.toList.all f = false := by
  rw [List.all_eq_false]
  have hl : pos < s.data.toList.length := h
  exact ⟨s.data.toList[pos], List.getElem_mem hl, by rw [show s.data.toList[pos] = s[pos] from rfl, hb]; simp⟩
theorem all_next {f : UInt8 → Bool} {s : ByteArray} {pos : Nat} (h : pos < s.size) (ha : (s.data.toList.take pos).all f = true) (hb : f s[pos] = true) : (s.data.toList.take (pos + 1)).all f = true := by
  have hl : pos < s.data.toList.length := h
  rw [List.take_succ_eq_append_getElem hl, List.all_append, ha]
  simp only [List.all_cons, List.all_nil, Bool.and_true, Bool.true_and]
  exact hb
theorem all_fin {f : UInt8 → Bool} {s : ByteArray} {pos : Nat} (h : ¬ pos < s.size) (ha : (s.data.toList.take pos).all f = true) : s.data.toList.all f = true := by
  rwa [List.take_of_length_le (by have : s.size = s.data.toList.length := Lib.size_eq s; omega)] at ha
end St
set_option maxHeartbeats 1000000 in
theorem refia_any (s : ByteArray) (w : World) (hs : s.size ≤ 1000000) :
    Calls Tryd.prog 35 #[.string s] w fun e w' => e = .returned (.bool (St.ia s)) ∧ w = w' := by
  go_enter Tryd.func35, Tryd.ntmps35
  go_wp2_with fail
  go_loop [3] (fun t3 => ∃ pos : Nat, t3 = .int .i64 pos ∧ pos ≤ s.size ∧ Hid ((s.data.toList.take pos).all St.iaC = true)) (fun t3 => s.size - (intOf t3).toNat)
  case atStart => exact ⟨0, rfl, Nat.zero_le _, by simp [Hid]⟩
  case round =>
    obtain ⟨pos, rfl, hpos, HI⟩ := hrel
    by_cases hlt : pos < s.size
    · have hlt8 : s[pos].toNat < 256 := s[pos].toNat_lt
      by_cases hc : 127 < s[pos].toNat
      · have Hf : Hid (St.ia s = false) := St.all_bad hlt (by simp [St.iaC]; omega)
        go_wp2_with fail
        go_ret
        exact ⟨by rw [Hf.out]; rfl, rfl⟩
      · have Hn : Hid ((s.data.toList.take (pos + 1)).all St.iaC = true) := St.all_next hlt HI.out (by simp [St.iaC]; omega)
        go_wp2_with fail
        go_roundw
        case rel => exact ⟨pos + 1, by go_num, by omega, Hn.out⟩
        case measure => simp [intOf]; omega
    · have Hf : Hid (St.ia s = true) := St.all_fin hlt HI.out
      go_wp2_with fail
      go_ret
      exact ⟨by rw [Hf.out]; rfl, rfl⟩
set_option maxHeartbeats 1000000 in
theorem ia_any (s : ByteArray) (w : World) (hs : s.size ≤ 1000000) :
    Calls Tryd.prog 34 #[.string s] w fun e w' => e = .returned (.bool (St.ia s)) ∧ Below w.heap.size w w' := by
  go_enter Tryd.func34, Tryd.ntmps34
  go_wp2_with fail
  go_loopw [] (fun wr => ∃ pos : Nat, wr.heap[w.heap.size]? = some (.stringIter s pos) ∧ Below w.heap.size w wr ∧ pos ≤ s.size ∧ Hid ((s.data.toList.take pos).all St.iaC = true)) (fun wr => s.size - wr.iterPos w.heap.size)
  case atStart => exact ⟨0, World.iter_heap w s 0, (Below.refl _ w).alloc (Nat.le_refl _) _, Nat.zero_le _, by simp [Hid]⟩
  case round =>
    obtain ⟨pos, hit, hbw, hpos, HI⟩ := hrel
    by_cases hlt : pos < s.size
    · have hnx : ∀ ty, (Instr.next (.pointer (some ⟨w.heap.size, 0, none⟩)) true ty).run Tryd.prog wr = _ := fun ty => Lib.run_next_any_at wr w.heap.size s pos ty hit hlt
      have hd1 := decode_le s pos
      have hip : wr.iterPos w.heap.size = pos := by simp [World.iterPos, hit]
      have Hip := Lib.hid hip
      clear hip
      by_cases ha : s[pos].toNat < 128
      · rw [decode_ascii s pos hlt ha] at hnx hd1
        have hit2 := Lib.hid (Lib.iterAt_heap wr w.heap.size s pos (pos + 1) hit)
        have hbw2 := Lib.below_iterAt hbw (k := w.heap.size) (Nat.le_refl _) s (pos + 1)
        have Hn : Hid ((s.data.toList.take (pos + 1)).all St.iaC = true) := St.all_next hlt HI.out (by simp [St.iaC]; omega)
        clear hit
        go_wp2_with fail
        go_roundw
        case rel => exact ⟨pos + 1, hit2.out, hbw2, by omega, Hn.out⟩
        case measure => rw [Hip.out]; simp only [World.iterPos, hit2.out]; omega
      · have hh := (decode_high s pos hlt (by omega)).1
        have hbw2 := Lib.below_iterAt hbw (k := w.heap.size) (Nat.le_refl _) s (pos + (Utf8.decode s pos).2)
        have Hf : Hid (St.ia s = false) := St.all_bad hlt (by simp [St.iaC]; omega)
        go_wp2_with fail
        go_ret
        exact ⟨by rw [Hf.out]; rfl, hbw2⟩
    · have hnx : ∀ ty, (Instr.next (.pointer (some ⟨w.heap.size, 0, none⟩)) true ty).run Tryd.prog wr = _ := fun ty => Lib.run_next_end_at wr w.heap.size s pos ty hit hlt
      have Hf : Hid (St.ia s = true) := St.all_fin hlt HI.out
      go_wp2_with fail
      go_ret
      exact ⟨by rw [Hf.out]; rfl, hbw⟩
namespace St
/-- The kinds of bytes: each with what the comparisons say. -/
theorem kinds (n : Nat) (h : n < 128) : (65 ≤ n ∧ n ≤ 90) ∨ (97 ≤ n ∧ n ≤ 122) ∨ (48 ≤ n ∧ n ≤ 57) ∨ n = 32 ∨ n = 39 ∨ n = 40 ∨ n = 41 ∨ n = 43 ∨ n = 44 ∨ n = 45 ∨ n = 46 ∨ n = 47 ∨ n = 58 ∨ n = 61 ∨ n = 63 ∨
    n < 32 ∨ (32 < n ∧ n < 39) ∨ n = 42 ∨ n = 59 ∨ n = 60 ∨ n = 62 ∨ n = 64 ∨ (90 < n ∧ n < 97) ∨ 122 < n := by omega
theorem nes (n : Nat) (h : n < 32 ∨ (32 < n ∧ n < 39) ∨ (90 < n ∧ n < 97) ∨ 122 < n) : ((n : Int) == 32) = false ∧ ((n : Int) == 39) = false ∧ ((n : Int) == 40) = false ∧ ((n : Int) == 41) = false ∧ ((n : Int) == 43) = false ∧ ((n : Int) == 44) = false ∧ ((n : Int) == 45) = false ∧ ((n : Int) == 46) = false ∧ ((n : Int) == 47) = false ∧ ((n : Int) == 58) = false ∧ ((n : Int) == 61) = false ∧ ((n : Int) == 63) = false := by
  simp only [beq_eq_false_iff_ne]; omega
theorem prC_yes {c : UInt8} (h : (65 ≤ c.toNat ∧ c.toNat ≤ 90) ∨ (97 ≤ c.toNat ∧ c.toNat ≤ 122) ∨ (48 ≤ c.toNat ∧ c.toNat ≤ 57) ∨ c.toNat = 32 ∨ c.toNat = 39 ∨ c.toNat = 40 ∨ c.toNat = 41 ∨ c.toNat = 43 ∨ c.toNat = 44 ∨ c.toNat = 45 ∨ c.toNat = 46 ∨ c.toNat = 47 ∨ c.toNat = 58 ∨ c.toNat = 61 ∨ c.toNat = 63) : prC c = true := by
  simp only [prC, more, decide_eq_true_eq, List.mem_cons, List.not_mem_nil, or_false]; omega
theorem prC_no {c : UInt8} (h : c.toNat < 32 ∨ (32 < c.toNat ∧ c.toNat < 39) ∨ c.toNat = 42 ∨ c.toNat = 59 ∨ c.toNat = 60 ∨ c.toNat = 62 ∨ c.toNat = 64 ∨ (90 < c.toNat ∧ c.toNat < 97) ∨ 122 < c.toNat) : prC c = false := by
  simp only [prC, more, decide_eq_false_iff_not, List.mem_cons, List.not_mem_nil, or_false]; omega
end St
set_option maxHeartbeats 8000000 in
set_option maxRecDepth 100000 in
theorem pr_any (s : ByteArray) (w : World) (hs : s.size ≤ 1000000) :
    Calls Tryd.prog 32 #[.string s] w fun e w' => e = .returned (.bool (St.pr s)) ∧ Below w.heap.size w w' := by
  go_enter Tryd.func32, Tryd.ntmps32
  go_wp2_with fail
  go_loopw [] (fun wr => ∃ pos : Nat, wr.heap[w.heap.size]? = some (.stringIter s pos) ∧ Below w.heap.size w wr ∧ pos ≤ s.size ∧ Hid ((s.data.toList.take pos).all St.prC = true)) (fun wr => s.size - wr.iterPos w.heap.size)
  case atStart => exact ⟨0, World.iter_heap w s 0, (Below.refl _ w).alloc (Nat.le_refl _) _, Nat.zero_le _, by simp [Hid]⟩
  case round =>
    obtain ⟨pos, hit, hbw, hpos, HI⟩ := hrel
    by_cases hlt : pos < s.size
    · have hnx : ∀ ty, (Instr.next (.pointer (some ⟨w.heap.size, 0, none⟩)) true ty).run Tryd.prog wr = _ := fun ty => Lib.run_next_any_at wr w.heap.size s pos ty hit hlt
      have hd1 := decode_le s pos
      have hip : wr.iterPos w.heap.size = pos := by simp [World.iterPos, hit]
      have Hip := Lib.hid hip
      clear hip
      by_cases ha : s[pos].toNat < 128
      · rw [decode_ascii s pos hlt ha] at hnx hd1
        have hit2 := Lib.hid (Lib.iterAt_heap wr w.heap.size s pos (pos + 1) hit)
        have hbw2 := Lib.below_iterAt hbw (k := w.heap.size) (Nat.le_refl _) s (pos + 1)
        have Hyes : Hid (St.prC s[pos] = true → (s.data.toList.take (pos + 1)).all St.prC = true) := fun h => St.all_next hlt HI.out h
        have Hno : Hid (St.prC s[pos] = false → St.pr s = false) := fun h => St.all_bad hlt h
        have Hy2 : Hid (_) := Lib.hid (St.prC_yes (c := s[pos]))
        have Hn2 : Hid (_) := Lib.hid (St.prC_no (c := s[pos]))
        obtain ⟨n, hn⟩ : ∃ n : Nat, n = s[pos].toNat := ⟨_, rfl⟩
        rw [← hn] at hnx ha hd1 Hy2 Hn2
        clear hit hn
        rcases St.kinds n ha with h | h | h | h | h | h | h | h | h | h | h | h | h | h | h | h | h | h | h | h | h | h | h | h
        iterate 3
          · obtain ⟨h1, h2⟩ := h
            have Hn := Lib.hid (Hyes.out (Hy2.out (by omega)))
            go_wp2_with fail
            go_roundw
            case rel => exact ⟨pos + 1, hit2.out, hbw2, by omega, Hn.out⟩
            case measure => rw [Hip.out]; simp only [World.iterPos, hit2.out]; omega
        iterate 12
          · subst h
            have Hn := Lib.hid (Hyes.out (Hy2.out (by omega)))
            go_wp2_with fail
            go_roundw
            case rel => exact ⟨pos + 1, hit2.out, hbw2, by omega, Hn.out⟩
            case measure => rw [Hip.out]; simp only [World.iterPos, hit2.out]; omega
        · obtain ⟨e0, e1, e2, e3, e4, e5, e6, e7, e8, e9, e10, e11⟩ := St.nes n (by omega)
          have Hf := Lib.hid (Hno.out (Hn2.out (by omega)))
          go_wp2_with fail
          go_ret
          exact ⟨by rw [Hf.out]; rfl, hbw2⟩
        · obtain ⟨e0, e1, e2, e3, e4, e5, e6, e7, e8, e9, e10, e11⟩ := St.nes n (by omega)
          have Hf := Lib.hid (Hno.out (Hn2.out (by omega)))
          obtain ⟨h1, h2⟩ := h
          go_wp2_with fail
          go_ret
          exact ⟨by rw [Hf.out]; rfl, hbw2⟩
        iterate 5
          · subst h
            have Hf := Lib.hid (Hno.out (Hn2.out (by omega)))
            go_wp2_with fail
            go_ret
            exact ⟨by rw [Hf.out]; rfl, hbw2⟩
        · obtain ⟨e0, e1, e2, e3, e4, e5, e6, e7, e8, e9, e10, e11⟩ := St.nes n (by omega)
          have Hf := Lib.hid (Hno.out (Hn2.out (by omega)))
          obtain ⟨h1, h2⟩ := h
          go_wp2_with fail
          go_ret
          exact ⟨by rw [Hf.out]; rfl, hbw2⟩
        · obtain ⟨e0, e1, e2, e3, e4, e5, e6, e7, e8, e9, e10, e11⟩ := St.nes n (by omega)
          have Hf := Lib.hid (Hno.out (Hn2.out (by omega)))
          go_wp2_with fail
          go_ret
          exact ⟨by rw [Hf.out]; rfl, hbw2⟩
      · have hh := (decode_high s pos hlt (by omega)).1
        have hbw2 := Lib.below_iterAt hbw (k := w.heap.size) (Nat.le_refl _) s (pos + (Utf8.decode s pos).2)
        have Hf : Hid (St.pr s = false) := St.all_bad hlt (St.prC_no (by omega))
        obtain ⟨n, hn⟩ : ∃ n : Nat, n = (Utf8.decode s pos).1 := ⟨_, rfl⟩
        rw [← hn] at hnx hd1 hh
        clear hn
        obtain ⟨e0, e1, e2, e3, e4, e5, e6, e7, e8, e9, e10, e11⟩ := St.nes n (by omega)
        go_wp2_with fail
        go_ret
        exact ⟨by rw [Hf.out]; rfl, hbw2⟩
    · have hnx : ∀ ty, (Instr.next (.pointer (some ⟨w.heap.size, 0, none⟩)) true ty).run Tryd.prog wr = _ := fun ty => Lib.run_next_end_at wr w.heap.size s pos ty hit hlt
      have Hf : Hid (St.pr s = true) := St.all_fin hlt HI.out
      go_wp2_with fail
      go_ret
      exact ⟨by rw [Hf.out]; rfl, hbw⟩
end Go.Proofs.YtehdbceemdpbaaaDoor
