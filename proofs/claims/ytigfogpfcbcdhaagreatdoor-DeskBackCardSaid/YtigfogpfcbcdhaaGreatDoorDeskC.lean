/- The walk of the reference's Size: how much a line holds, as far as 3000. Condition: no part is longer than memory. -/
import Derived.Test.YtigfogpfcbcdhaaGreatDoorDeskB
set_option linter.unusedVariables false
set_option linter.unusedSimpArgs false
namespace Go.Proofs.YtigfogpfcbcdhaaGreatDoor
open Go Go.RowKit
namespace Dk
def sumB (bs : List Bs) : Nat := (bs.map fun b => 1 + b.length).sum
def sizeL (l : Ln) : Nat := l.word.length + l.nums.length + sumB l.bytes
theorem sumB_take_succ (bs : List Bs) (i : Nat) (h : i < bs.length) : sumB (bs.take (i + 1)) = sumB (bs.take i) + (1 + bs[i].length) := by
  unfold sumB
  rw [List.take_succ_eq_append_getElem h]
  simp only [List.map_append, List.sum_append, List.map_cons, List.map_nil, List.sum_cons, List.sum_nil]
  omega
theorem sumB_mem {bs : List Bs} {b : Bs} (h : b ∈ bs) : b.length + 1 ≤ sumB bs := by
  induction bs with
  | nil => cases h
  | cons a t ih =>
    have e : sumB (a :: t) = 1 + a.length + sumB t := by simp [sumB]
    rcases List.mem_cons.1 h with rfl | h
    · omega
    · have := ih h; omega
theorem sumB_len (bs : List Bs) : bs.length ≤ sumB bs := by
  induction bs with
  | nil => simp
  | cons a t ih =>
    have e : sumB (a :: t) = 1 + a.length + sumB t := by simp [sumB]
    rw [List.length_cons]; omega
/-- A line that is no longer than memory has room for. -/
structure Room (l : Ln) : Prop where
  word : l.word.length ≤ 2305843009213693952
  nums : l.nums.length ≤ 2305843009213693952
  bytes : l.bytes.length ≤ 2305843009213693952
  part : ∀ b ∈ l.bytes, b.length ≤ 2305843009213693952
end Dk
set_option maxHeartbeats 4000000 in
set_option maxRecDepth 100000 in
theorem size_any (v : Value) (l : Dk.Ln) (Av : Nat → Prop) (w : World) (h : LineAt w Av v l) (hr : Dk.Room l) :
    Calls Tryz.prog 12 #[v, .int .i64 3000] w fun e w' => (∃ k : Nat, e = .returned (.int .i64 k) ∧ (k ≤ 3000 → Dk.sizeL l = k)) ∧ Below w.heap.size w w' := by
  obtain ⟨v1, v2, rfl, h1, h2⟩ := h
  obtain ⟨A1, c1, rfl, hc1, _⟩ := h1.nums
  obtain ⟨A2, c2, rfl, hc2, hn2⟩ := h2.rows
  obtain ⟨n, hn⟩ : ∃ n, n = l.nums.length := ⟨_, rfl⟩
  obtain ⟨m, hm⟩ : ∃ m, m = l.bytes.length := ⟨_, rfl⟩
  obtain ⟨W, hW⟩ : ∃ W : ByteArray, W = ⟨l.word.toArray⟩ := ⟨_, rfl⟩
  have hn9 : n ≤ 2305843009213693952 := by rw [hn]; exact hr.nums
  have hm9 : m ≤ 2305843009213693952 := by rw [hm]; exact hr.bytes
  have hw9 : W.size ≤ 2305843009213693952 := by rw [hW]; exact hr.word
  have Hst : Hid (W.size + n + Dk.sumB l.bytes = Dk.sizeL l) := by show _ = _; rw [hW, hn]; rfl
  rw [← hn, ← hm, ← hW]
  have Hm := Lib.hid hm
  have H2 := Lib.hid hn2
  have HR := Lib.hid hr
  have HB0 : Hid (Below w.heap.size w (w.alloc (.cells #[.string W, .slice A1 n c1, .slice A2 m c2] 30))) := (Below.refl _ w).alloc (Nat.le_refl _) _
  clear hn2 h1 h2 hc1 hc2 hn hm hW hr
  go_enter Tryz.func12, Tryz.ntmps12
  go_wp2_with fail
  obtain ⟨V, hV⟩ : ∃ V, V = w.alloc (.cells #[.string W, .slice A1 n c1, .slice A2 m c2] 30) := ⟨_, rfl⟩
  have hKA : Blk V w.heap.size 30 #[.string W, .slice A1 n c1, .slice A2 m c2] := by rw [hV]; exact Blk.new w _ _
  rw [← hV] at HB0 ⊢
  have HKA := Lib.hid hKA
  clear hKA hV
  go_loopw [5, 6] (fun t5 t6 wr => ∃ k i : Nat, t5 = .int .i64 k ∧ t6 = .int .i64 i ∧ i ≤ m ∧ k ≤ 4611686018427392000 ∧ wr = V ∧ Hid (k = W.size + n + Dk.sumB (l.bytes.take i))) (fun _ t6 _ => m - (intOf t6).toNat)
  case atStart => exact ⟨W.size + n, 0, by go_num, rfl, Nat.zero_le _, by omega, rfl, by show _ = _; simp [Dk.sumB]⟩
  case round =>
    obtain ⟨k, i, rfl, rfl, hi, hk, rfl, HI⟩ := hrel
    have b1 : wr.cell? ⟨w.heap.size, 2, none⟩ = some (.slice A2 m c2) := by rw [HKA.out.cell]; rfl
    by_cases hin : i < m
    · have hin1 : decide ((i : Int) < (m : Int)) = true := decide_eq_true (by omega)
      by_cases hk3 : k ≤ 3000
      · have hk1 : decide ((k : Int) ≤ 3000) = true := decide_eq_true (by omega)
        obtain ⟨g, o, A', c', rfl, _, e1, _, r1⟩ := H2.out i (by rw [← Hm.out]; exact hin)
        have hz : (l.bytes[i]'(by rw [← Hm.out]; exact hin)).length ≤ 2305843009213693952 := HR.out.part _ (List.getElem_mem _)
        have hs := Dk.sumB_take_succ l.bytes i (by rw [← Hm.out]; exact hin)
        obtain ⟨x, hx⟩ : ∃ x, x = l.bytes[i]'(by rw [← Hm.out]; exact hin) := ⟨_, rfl⟩
        rw [← hx] at e1 r1 hz hs
        have e3 := cell_stays HB0.out e1
        have Hn : Hid (k + 1 + x.length = W.size + n + Dk.sumB (l.bytes.take (i + 1))) := by show _ = _; have := HI.out; omega
        clear e1 r1 hx hs
        go_wp2_with fail
        go_roundw
        case rel => exact ⟨k + 1 + x.length, i + 1, by go_num, by go_num, by omega, by omega, trivial, Hn.out⟩
        case measure => simp [intOf]; omega
      · have hk1 : decide ((k : Int) ≤ 3000) = false := decide_eq_false (by omega)
        have hk2 : decide (k ≤ 3000) = false := decide_eq_false hk3
        have Hk := Lib.hid hk3
        clear hk3
        go_wp2_with fail
        go_ret
        exact ⟨⟨k, rfl, fun h => absurd h Hk.out⟩, HB0.out⟩
    · have hin1 : decide ((i : Int) < (m : Int)) = false := decide_eq_false (by omega)
      have hin2 : decide (i < m) = false := decide_eq_false hin
      have Hf : Hid (Dk.sizeL l = k) := by
        show _ = _
        have h1 := HI.out
        rw [List.take_of_length_le (by rw [← Hm.out]; omega)] at h1
        rw [← Hst.out, h1]
      clear hin
      go_wp2_with fail
      go_ret
      exact ⟨⟨k, rfl, fun _ => Hf.out⟩, HB0.out⟩
end Go.Proofs.YtigfogpfcbcdhaaGreatDoor
