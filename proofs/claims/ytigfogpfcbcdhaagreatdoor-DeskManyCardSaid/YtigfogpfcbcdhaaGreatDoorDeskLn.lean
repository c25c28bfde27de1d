/- The walk of the reference's Lines: the lines of a text. Condition: the text is short. -/
import Derived.Test.YtigfogpfcbcdhaaGreatDoorRefD
import Derived.Test.YtigfogpfcbcdhaaGreatDoorDeskNb
set_option linter.unusedVariables false
set_option linter.unusedSimpArgs false
namespace Go.Proofs.YtigfogpfcbcdhaaGreatDoor
open Go Go.RowKit
/-- Up to a place of the text. -/
structure LInv (s : ByteArray) (i from_ : Nat) (ps : List (List UInt8)) : Prop where
  hi : i ≤ s.size
  hf : from_ ≤ i
  st : ps ++ Dk.linesL (s.data.toList.drop from_) = Dk.linesL s.data.toList
  no : (10 : UInt8) ∉ (s.data.toList.drop from_).take (i - from_)
theorem LInv.last {s : ByteArray} {from_ : Nat} {ps : List (List UInt8)} (h : LInv s s.size from_ ps) (hl : from_ < s.size) : ps ++ [(s.extract from_ s.size).data.toList] = Dk.linesL s.data.toList := by
  have hz : s.data.toList.length = s.size := rfl
  have e : (s.data.toList.drop from_).take (s.size - from_) = s.data.toList.drop from_ := List.take_of_length_le (by rw [List.length_drop]; show s.size - from_ ≤ _; exact Nat.le_refl _)
  have hn := h.no
  rw [e] at hn
  have h0 : s.data.toList.drop from_ ≠ [] := by intro e; have := congrArg List.length e; rw [List.length_drop] at this; simp at this; omega
  rw [ext_list, e, ← h.st, Dk.lines_last hn h0]
theorem LInv.none_ {s : ByteArray} {from_ : Nat} {ps : List (List UInt8)} (h : LInv s s.size from_ ps) (hl : ¬ from_ < s.size) : ps = Dk.linesL s.data.toList := by
  have hz : s.data.toList.length = s.size := rfl
  have e : s.data.toList.drop from_ = [] := List.drop_eq_nil_of_le (by omega)
  have h1 := h.st
  rw [e] at h1
  simpa [Dk.linesL, Dk.linesA] using h1
theorem LInv.cut {s : ByteArray} {i from_ : Nat} {ps : List (List UInt8)} (h : LInv s i from_ ps) (hp : i < s.size) (hb : s[i] = 10) : LInv s (i + 1) (i + 1) (ps ++ [(s.extract from_ i).data.toList]) := by
  have hl : s.data.toList.length = s.size := rfl
  refine ⟨hp, Nat.le_refl _, ?_, by simp⟩
  have e : s.data.toList.drop from_ = (s.data.toList.drop from_).take (i - from_) ++ 10 :: s.data.toList.drop (i + 1) := by
    have h1 : (s.data.toList.drop from_).drop (i - from_) = 10 :: s.data.toList.drop (i + 1) := by
      rw [List.drop_drop, show from_ + (i - from_) = i by have := h.hf; omega, List.drop_eq_getElem_cons (show i < s.data.toList.length by omega)]
      congr 1
    rw [← h1, List.take_append_drop]
  rw [ext_list, ← h.st]
  conv => rhs; rw [e, Dk.lines_line h.no]
  simp
theorem LInv.next {s : ByteArray} {i from_ : Nat} {ps : List (List UInt8)} (h : LInv s i from_ ps) (hp : i < s.size) (hb : s[i] ≠ 10) : LInv s (i + 1) from_ ps := by
  have hl : s.data.toList.length = s.size := rfl
  refine ⟨hp, by have := h.hf; omega, h.st, ?_⟩
  have hlt : i - from_ < (s.data.toList.drop from_).length := by rw [List.length_drop]; have := h.hf; omega
  have e : (s.data.toList.drop from_)[i - from_]'hlt = s[i] := by
    rw [List.getElem_drop]
    have e2 : from_ + (i - from_) = i := by have := h.hf; omega
    simp only [e2]; rfl
  rw [show i + 1 - from_ = (i - from_) + 1 by have := h.hf; omega, List.take_succ_eq_append_getElem hlt, List.mem_append, List.mem_singleton, not_or]
  exact ⟨h.no, by rw [e]; exact Ne.symm hb⟩
set_option maxHeartbeats 2000000 in
set_option maxRecDepth 100000 in
theorem reflines_any (s : ByteArray) (w : World) (hs : s.size ≤ 60000) :
    Calls Tryz.prog 18 #[.string s] w fun e w' => ∃ v, e = .returned v ∧ w'.ownsRow w.heap.size 9 1 v (Dk.linesL s.data.toList).length (strCells (Dk.linesL s.data.toList)) ∧ Below w.heap.size w w' := by
  obtain ⟨i9, hi9, hz90, hz91, hz92⟩ := info_parts infoStr
  go_enter Tryz.func18, Tryz.ntmps18
  go_wp2_with fail
  go_loopw [3, 4, 5] (fun t3 t4 t5 wr => ∃ (i f n : Nat) (ps : List (List UInt8)), t4 = .int .i64 f ∧ t5 = .int .i64 i ∧ f ≤ i ∧ i ≤ s.size ∧ n ≤ i ∧ Hid (n = ps.length ∧ wr.ownsRow w.heap.size 9 1 t3 n (strCells ps) ∧ Below w.heap.size w wr ∧ LInv s i f ps)) (fun _ _ t5 _ => s.size - (intOf t5).toNat)
  case atStart => exact ⟨0, 0, 0, [], rfl, rfl, by omega, by omega, by omega, rfl, World.ownsRow_nil _ _ _ _, Below.refl _ _, ⟨Nat.zero_le _, Nat.le_refl _, by simp, by simp⟩⟩
  case round =>
    obtain ⟨i, f, n, ps, rfl, rfl, hfi, hi, hni, HI⟩ := hrel
    have hsz := HI.out.2.2.1.size
    have hnl : n ≤ 10000000 := by omega
    have HO := Lib.hid HI.out.2.1
    have HB := Lib.hid HI.out.2.2.1
    have HS := Lib.hid HI.out.2.2.2
    have Hn := Lib.hid HI.out.1
    by_cases hp : i < s.size
    · have hd1 : decide ((i : Int) < (s.size : Int)) = true := decide_eq_true (by omega)
      have hc8 : s[i].toNat < 256 := UInt8.toNat_lt _
      by_cases hb : s[i] = 10
      · have hb1 : ((s[i].toNat : Int) == 10) = true := by rw [hb]; rfl
        have HS2 := Lib.hid (HS.out.cut hp hb)
        clear hb
        go_wp2_with (refine wpList_pushE rfl (.tmp 16) (.tmp 21) 45 9 rfl w.heap.size i9 _ 16 Tryz.underlying45 hi9 hz90 hz91 hz92 rfl u3 n (strCells ps) rfl HO.out _ rfl 1 rfl hnl (by decide) hsz ?_; intro v5 w5 o5 g5 k5)
        rw [strCells_snoc] at o5
        refine ⟨⟨i + 1, i + 1, n + 1, _, by go_num, by go_num, by omega, by omega, by omega, by rw [Hn.out]; simp, o5, HB.out.trans (own_size_low HO.out g5 hsz), HS2.out⟩, by simp [intOf]; omega⟩
      · have hb1 : ((s[i].toNat : Int) == 10) = false := by
          rw [beq_eq_false_iff_ne]; intro e; apply hb; apply UInt8.toNat_inj.1; simpa using (show s[i].toNat = 10 by omega)
        have HS2 := Lib.hid (HS.out.next hp hb)
        clear hb
        go_wp2_with fail
        refine ⟨⟨i + 1, f, n, ps, rfl, by go_num, by omega, by omega, by omega, Hn.out, HO.out, HB.out, HS2.out⟩, by simp [intOf]; omega⟩
    · obtain rfl : i = s.size := by omega
      by_cases hl : f < s.size
      · have hl1 : decide ((f : Int) < (s.size : Int)) = true := decide_eq_true (by omega)
        have HE := Lib.hid (HS.out.last hl)
        go_wp2_with (refine wpList_pushE rfl (.tmp 29) (.tmp 33) 45 9 rfl w.heap.size i9 _ 16 Tryz.underlying45 hi9 hz90 hz91 hz92 rfl u3 n (strCells ps) rfl HO.out _ rfl 1 rfl hnl (by decide) hsz ?_; intro v5 w5 o5 g5 k5)
        rw [strCells_snoc, HE.out] at o5
        go_ret
        refine ⟨_, rfl, ?_, HB.out.trans (own_size_low HO.out g5 hsz)⟩
        have e : n + 1 = (Dk.linesL s.data.toList).length := by rw [← HE.out, Hn.out]; simp
        rw [← e]; exact o5
      · have hl1 : decide ((f : Int) < (s.size : Int)) = false := decide_eq_false (by omega)
        have hl2 : decide (f < s.size) = false := decide_eq_false hl
        have HE := Lib.hid (HS.out.none_ hl)
        clear hl
        go_wp2_with fail
        go_ret
        refine ⟨_, rfl, ?_, HB.out⟩
        have := HO.out
        rw [Hn.out, HE.out] at this
        exact this
end Go.Proofs.YtigfogpfcbcdhaaGreatDoor
