/- The walks of a number's digits: the program's and the reference's. -/
import Derived.Test.YtehdbceemdpbaaaDoorUtfW2
import Derived.Test.YtehdbceemdpbaaaDoorOid
namespace Go.Proofs.YtehdbceemdpbaaaDoor
open Go Go.RowKit

theorem at_list (s : ByteArray) (k : Nat) (h : k < s.size) : s.data.toList[k]'h = s[k] := rfl
theorem isEmpty_of {s : ByteArray} : (s.size = 0 → s.toList.isEmpty = true) ∧ (¬ s.size = 0 → s.toList.isEmpty = false) := by
  rw [Lib.toList_data, Lib.size_eq]
  cases s.data.toList <;> simp
theorem head_bt {s : ByteArray} (h : 0 < s.size) : s.data.toList.head? = some 48 ↔ PlainAid.bt s 0 = 48 := by
  have hl : 0 < s.data.toList.length := h
  rw [List.head?_eq_getElem?, List.getElem?_eq_getElem hl]
  unfold PlainAid.bt
  rw [dif_pos h]
  show some s[0] = some 48 ↔ _
  simp only [Option.some.injEq]
  constructor
  · intro e; rw [e]; rfl
  · intro e; apply UInt8.toNat_inj.1; simpa using (show s[0].toNat = 48 by omega)
def numVal (s : ByteArray) : Value := match Od.numL s.data.toList with | some n => .tuple #[.int .u64 n, .bool true] | none => .tuple #[.int .u64 0, .bool false]
theorem numVal_none {s : ByteArray} (h : Od.numL s.data.toList = none) : numVal s = .tuple #[.int .u64 0, .bool false] := by unfold numVal; rw [h]
theorem numVal_some {s : ByteArray} {n : Nat} (h : Od.numL s.data.toList = some n) : numVal s = .tuple #[.int .u64 n, .bool true] := by unfold numVal; rw [h]
/-- After so many digits. -/
structure NInv (s : ByteArray) (pos n : Nat) : Prop where
  hp : pos ≤ s.size
  hn : n = Od.val (s.data.toList.take pos)
  hd : (s.data.toList.take pos).all Od.isDig
theorem NInv.bad {s : ByteArray} {pos : Nat} (h : pos < s.size) (hb : s[pos].toNat < 48 ∨ 57 < s[pos].toNat) : numVal s = .tuple #[.int .u64 0, .bool false] := by
  refine numVal_none (Od.numL_bad_at (k := pos) h ?_)
  rw [at_list s pos h]
  simp only [Od.isDig, decide_eq_false_iff_not]; omega
theorem NInv.big {s : ByteArray} {pos n : Nat} (hI : NInv s pos n) (h : pos < s.size) (h0 : 48 ≤ s[pos].toNat) (hb : 9223372036854775807 < n * 10 + (s[pos].toNat - 48)) : numVal s = .tuple #[.int .u64 0, .bool false] := by
  refine numVal_none (Od.numL_big (k := pos + 1) ?_)
  have hv := Od.val_take_succ (l := s.data.toList) (k := pos) h
  rw [at_list s pos h, ← hI.hn] at hv
  rw [hv]; unfold Od.top; omega
theorem NInv.next {s : ByteArray} {pos n : Nat} (hI : NInv s pos n) (h : pos < s.size) (h0 : 48 ≤ s[pos].toNat ∧ s[pos].toNat ≤ 57) : NInv s (pos + 1) (n * 10 + (s[pos].toNat - 48)) := by
  have hv := Od.val_take_succ (l := s.data.toList) (k := pos) h
  rw [at_list s pos h, ← hI.hn] at hv
  exact ⟨h, hv.symm, Od.all_take_succ h hI.hd (by rw [at_list s pos h]; simp [Od.isDig, h0])⟩
theorem NInv.fin {s : ByteArray} {pos n : Nat} (hI : NInv s pos n) (h : ¬ pos < s.size) (hb : n ≤ 9223372036854775807) (h0 : ¬ s.size = 0) (h1 : ¬ (1 < s.size ∧ PlainAid.bt s 0 = 48)) : numVal s = .tuple #[.int .u64 n, .bool true] := by
  have e : s.data.toList.take pos = s.data.toList := List.take_of_length_le (by have : s.data.toList.length = s.size := rfl; omega)
  have hn := hI.hn
  have hd := hI.hd
  rw [e] at hn hd
  subst hn
  refine numVal_some (Od.numL_ok ?_ hd (by unfold Od.top; omega))
  rintro (h2 | ⟨h2, h3⟩)
  · apply h0; rw [Lib.size_eq, h2]; rfl
  · exact h1 ⟨h2, (head_bt (by omega)).1 h3⟩
theorem numVal_lead {s : ByteArray} (h1 : 1 < s.size) (h2 : PlainAid.bt s 0 = 48) : numVal s = .tuple #[.int .u64 0, .bool false] := by
  refine numVal_none ?_
  unfold Od.numL
  rw [if_pos (.inr ⟨h1, (head_bt (by omega)).2 h2⟩)]
theorem numVal_empty {s : ByteArray} (h : s.size = 0) : numVal s = .tuple #[.int .u64 0, .bool false] := by
  refine numVal_none ?_
  unfold Od.numL
  rw [if_pos (.inl (List.eq_nil_of_length_eq_zero h))]
set_option maxHeartbeats 4000000 in
set_option maxRecDepth 100000 in
theorem number_loop (s : ByteArray) (w : World) (hs : s.size ≤ 1000000) (h0 : ¬ s.size = 0) (hc : (s.size : Int) ≤ 1 ∨ (PlainAid.bt s 0 == 48) = false) :
    Calls Tryd.prog 48 #[.string s] w fun e w' => e = .returned (numVal s) ∧ Below w.heap.size w w' := by
  have hne := isEmpty_of.2 h0
  have Hfin : Hid (¬ (1 < s.size ∧ PlainAid.bt s 0 = 48)) := by
    rintro ⟨a, b⟩
    rcases hc with hc | hc
    · omega
    · rw [b] at hc; simp at hc
  have h0' : 0 < s.size := by omega
  have H0 := Lib.hid h0
  clear h0
  have hb := PlainAid.get_bt s
  have hz1 : (s.size : Int) ≤ 1 ∨ ¬ (s.size : Int) ≤ 1 := by omega
  rcases hz1 with hz1 | hz1
  all_goals rcases hc with hc | hc
  all_goals try (exfalso; omega)
  all_goals
    go_enter Tryd.func48, Tryd.ntmps48
    go_wp2_with fail
    clear hb
    go_loopw [4] (fun t4 wr => ∃ pos n : Nat, t4 = .int .u64 n ∧ (n : Int) ≤ 9223372036854775807 ∧ wr.heap[w.heap.size]? = some (.stringIter s pos) ∧ Below w.heap.size w wr ∧ Hid (NInv s pos n)) (fun _ wr => s.size - wr.iterPos w.heap.size)
    case atStart => exact ⟨0, 0, rfl, by omega, World.iter_heap w s 0, (Below.refl _ w).alloc (Nat.le_refl _) _, Nat.zero_le _, by simp [Od.val], by simp⟩
    case round =>
      obtain ⟨pos, n, rfl, hn, hit, hbw, HI⟩ := hrel
      by_cases hlt : pos < s.size
      · have hnx : ∀ ty, (Instr.next (.pointer (some ⟨w.heap.size, 0, none⟩)) true ty).run Tryd.prog wr = _ := fun ty => Lib.run_next_any_at wr w.heap.size s pos ty hit hlt
        have hd1 := decode_le s pos
        have hip : wr.iterPos w.heap.size = pos := by simp [World.iterPos, hit]
        have Hip := Lib.hid hip
        clear hip
        by_cases ha : s[pos].toNat < 128
        · rw [decode_ascii s pos hlt ha] at hnx hd1
          have hit2 := Lib.hid (Lib.iterAt_heap wr w.heap.size s pos (pos + 1) hit)
          have hbw2 := Lib.below_iterAt hbw (k := w.heap.size) (Nat.le_refl _) s (pos + 1)
          obtain ⟨c, hcc⟩ : ∃ c : Nat, c = s[pos].toNat := ⟨_, rfl⟩
          have Hcc := Lib.hid hcc
          rw [← hcc] at hnx ha hd1
          clear hcc hit
          by_cases hlo : (c : Int) < 48
          · have Hf := Lib.hid (NInv.bad hlt (.inl (by rw [← Hcc.out]; omega)))
            go_wp2_with fail
            go_ret2
            exact ⟨by rw [Hf.out]; rfl, hbw2⟩
          · by_cases hhi : 57 < (c : Int)
            · have Hf := Lib.hid (NInv.bad hlt (.inr (by rw [← Hcc.out]; omega)))
              go_wp2_with fail
              go_ret2
              exact ⟨by rw [Hf.out]; rfl, hbw2⟩
            · have Hbig : Hid ((9223372036854775807 - ((c : Int) - 48)) / 10 < (n : Int) → numVal s = .tuple #[.int .u64 0, .bool false]) := fun hx =>
                HI.out.big hlt (by rw [← Hcc.out]; omega) (by rw [← Hcc.out]; omega)
              have Hnext : Hid ((n : Int) ≤ (9223372036854775807 - ((c : Int) - 48)) / 10 → NInv s (pos + 1) (n * 10 + (c - 48)) ∧ ((n * 10 + (c - 48) : Nat) : Int) ≤ 9223372036854775807) := fun hx =>
                ⟨by have := HI.out.next hlt (by rw [← Hcc.out]; omega); rwa [← Hcc.out] at this, by omega⟩
              go_wp2_with fail
              · go_ret2
                have hx : (9223372036854775807 - ((c : Int) - 48)) / 10 < (n : Int) := by assumption
                exact ⟨by rw [Hbig.out hx]; rfl, hbw2⟩
              · have hx : (n : Int) ≤ (9223372036854775807 - ((c : Int) - 48)) / 10 := by assumption
                have h2 := Hnext.out hx
                go_roundw
                case rel => exact ⟨pos + 1, n * 10 + (c - 48), by go_num, h2.2, hit2.out, hbw2, h2.1⟩
                case measure => rw [Hip.out]; simp only [World.iterPos, hit2.out]; omega
        · have hh := (decode_high s pos hlt (by omega)).1
          have hbw2 := Lib.below_iterAt hbw (k := w.heap.size) (Nat.le_refl _) s (pos + (Utf8.decode s pos).2)
          have Hf := Lib.hid (NInv.bad hlt (.inr (by omega)))
          go_wp2_with fail
          go_ret2
          exact ⟨by rw [Hf.out]; rfl, hbw2⟩
      · have hnx : ∀ ty, (Instr.next (.pointer (some ⟨w.heap.size, 0, none⟩)) true ty).run Tryd.prog wr = _ := fun ty => Lib.run_next_end_at wr w.heap.size s pos ty hit hlt
        have Hf := Lib.hid (HI.out.fin hlt (by omega) H0.out Hfin.out)
        go_wp2_with fail
        go_ret2
        exact ⟨by rw [Hf.out]; rfl, hbw⟩
/-- The program's number: of any text. -/
theorem number_any (s : ByteArray) (w : World) (hs : s.size ≤ 1000000) :
    Calls Tryd.prog 48 #[.string s] w fun e w' => e = .returned (numVal s) ∧ Below w.heap.size w w' := by
  by_cases h0 : s.size = 0
  · rw [numVal_empty h0]
    have he := isEmpty_of.1 h0
    clear h0
    go_enter Tryd.func48, Tryd.ntmps48
    go_wp2_with fail
    go_ret2
    exact ⟨rfl, Below.refl _ _⟩
  · by_cases hc : (s.size : Int) ≤ 1 ∨ (PlainAid.bt s 0 == 48) = false
    · exact number_loop s w hs h0 hc
    · have h1 : 1 < s.size := by omega
      have h48 : PlainAid.bt s 0 = 48 := by
        have : ¬ (PlainAid.bt s 0 == 48) = false := fun h => hc (.inr h)
        simpa using this
      rw [numVal_lead h1 h48]
      have hne := isEmpty_of.2 h0
      have hb := PlainAid.get_bt s
      have h48' : (PlainAid.bt s 0 == 48) = true := by simpa using h48
      clear hc h48 h0
      go_enter Tryd.func48, Tryd.ntmps48
      go_wp2_with fail
      go_ret2
      exact ⟨rfl, Below.refl _ _⟩
end Go.Proofs.YtehdbceemdpbaaaDoor
