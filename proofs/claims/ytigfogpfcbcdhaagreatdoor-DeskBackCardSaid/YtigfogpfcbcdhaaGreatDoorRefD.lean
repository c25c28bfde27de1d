/- The walks of the reference's split, of a text's bytes and of a text's number. Condition: the text is short. -/
import Derived.Test.YtigfogpfcbcdhaaGreatDoorRefC
set_option linter.unusedVariables false
set_option linter.unusedSimpArgs false
namespace Go.Proofs.YtigfogpfcbcdhaaGreatDoor
open Go Go.RowKit
theorem infoStr : (Tryz.prog.info? 9).map (fun i => (i.zero, i.size, i.bytes)) = some (some (.string ⟨#[]⟩), 1, 16) := by kernel_rfl
def strCells (ps : List (List UInt8)) : List Value := ps.map fun p => .string ⟨p.toArray⟩
theorem strCells_snoc (ps : List (List UInt8)) (x : ByteArray) : strCells ps ++ [.string x] = strCells (ps ++ [x.data.toList]) := by
  unfold strCells; rw [List.map_append]; simp
/-- Up to a place of the text. -/
structure SInv (s : ByteArray) (i from_ : Nat) (ps : List (List UInt8)) : Prop where
  hi : i ≤ s.size
  hf : from_ ≤ i
  st : ps ++ Dk.split (s.data.toList.drop from_) = Dk.split s.data.toList
  no : (32 : UInt8) ∉ (s.data.toList.drop from_).take (i - from_)
theorem ext_list (s : ByteArray) (a b : Nat) : (s.extract a b).data.toList = (s.data.toList.drop a).take (b - a) := by
  simp [ByteArray.data_extract, Array.toList_extract]
theorem SInv.end_ {s : ByteArray} {from_ : Nat} {ps : List (List UInt8)} (h : SInv s s.size from_ ps) : ps ++ [(s.extract from_ s.size).data.toList] = Dk.split s.data.toList := by
  have e : (s.data.toList.drop from_).take (s.size - from_) = s.data.toList.drop from_ := List.take_of_length_le (by rw [List.length_drop]; show s.size - from_ ≤ _; exact Nat.le_refl _)
  have hn := h.no
  rw [e] at hn
  rw [ext_list, e, ← h.st, Dk.split_last hn]
theorem SInv.cut {s : ByteArray} {i from_ : Nat} {ps : List (List UInt8)} (h : SInv s i from_ ps) (hp : i < s.size) (hb : s[i] = 32) : SInv s (i + 1) (i + 1) (ps ++ [(s.extract from_ i).data.toList]) := by
  have hl : s.data.toList.length = s.size := rfl
  refine ⟨hp, Nat.le_refl _, ?_, by simp⟩
  have e : s.data.toList.drop from_ = (s.data.toList.drop from_).take (i - from_) ++ 32 :: s.data.toList.drop (i + 1) := by
    have h1 : (s.data.toList.drop from_).drop (i - from_) = 32 :: s.data.toList.drop (i + 1) := by
      rw [List.drop_drop, show from_ + (i - from_) = i by have := h.hf; omega, List.drop_eq_getElem_cons (show i < s.data.toList.length by omega)]
      congr 1
    rw [← h1, List.take_append_drop]
  rw [ext_list, ← h.st]
  conv => rhs; rw [e, Dk.split_plain h.no]
  simp
theorem SInv.next {s : ByteArray} {i from_ : Nat} {ps : List (List UInt8)} (h : SInv s i from_ ps) (hp : i < s.size) (hb : s[i] ≠ 32) : SInv s (i + 1) from_ ps := by
  have hl : s.data.toList.length = s.size := rfl
  refine ⟨hp, by have := h.hf; omega, h.st, ?_⟩
  have hlt : i - from_ < (s.data.toList.drop from_).length := by rw [List.length_drop]; have := h.hf; omega
  have e : (s.data.toList.drop from_)[i - from_]'hlt = s[i] := by
    rw [List.getElem_drop]
    have e2 : from_ + (i - from_) = i := by have := h.hf; omega
    simp only [e2]; rfl
  rw [show i + 1 - from_ = (i - from_) + 1 by have := h.hf; omega, List.take_succ_eq_append_getElem hlt, List.mem_append, List.mem_singleton, not_or]
  exact ⟨h.no, by rw [e]; exact Ne.symm hb⟩
theorem own_size_low {w w' : World} {B : Nat} {v : Value} {e : TypeId} {n : Nat} {xs : List Value} (h : w.ownsRow B e 1 v n xs) (g : w.grownBy w' v.ownBlock) (hB : B ≤ w.heap.size) : Below B w w' :=
  (Below.refl B w).grown g hB (fun k hk => (h.lt k hk).1)
set_option maxHeartbeats 2000000 in
set_option maxRecDepth 100000 in
theorem split_any (s : ByteArray) (w : World) (hs : s.size ≤ 60000) :
    Calls Tryz.prog 23 #[.string s] w fun e w' => ∃ v, e = .returned v ∧ w'.ownsRow w.heap.size 9 1 v (Dk.split s.data.toList).length (strCells (Dk.split s.data.toList)) ∧ Below w.heap.size w w' := by
  obtain ⟨i9, hi9, hz90, hz91, hz92⟩ := info_parts infoStr
  go_enter Tryz.func23, Tryz.ntmps23
  go_wp2_with fail
  go_loopw [3, 4, 5] (fun t3 t4 t5 wr => ∃ (i f n : Nat) (ps : List (List UInt8)), t4 = .int .i64 f ∧ t5 = .int .i64 i ∧ f ≤ i ∧ i ≤ s.size + 1 ∧ n ≤ i ∧ Hid (n = ps.length ∧ wr.ownsRow w.heap.size 9 1 t3 n (strCells ps) ∧ Below w.heap.size w wr ∧ ((SInv s i f ps) ∨ (i = s.size + 1 ∧ ps = Dk.split s.data.toList)))) (fun _ _ t5 _ => s.size + 1 - (intOf t5).toNat)
  case atStart => exact ⟨0, 0, 0, [], rfl, rfl, by omega, by omega, by omega, rfl, World.ownsRow_nil _ _ _ _, Below.refl _ _, .inl ⟨Nat.zero_le _, Nat.le_refl _, by simp, by simp⟩⟩
  case round =>
    obtain ⟨i, f, n, ps, rfl, rfl, hfi, hi, hni, HI⟩ := hrel
    have hsz := HI.out.2.2.1.size
    have hnl : n ≤ 10000000 := by omega
    have HO := Lib.hid HI.out.2.1
    have HB := Lib.hid HI.out.2.2.1
    by_cases hp : i ≤ s.size
    · have hS : SInv s i f ps := by
        rcases HI.out.2.2.2 with h | ⟨h, _⟩
        · exact h
        · omega
      have HS := Lib.hid hS
      clear hS
      by_cases he : i = s.size
      · have he1 : ((i : Int) == (s.size : Int)) = true := by simp; omega
        have Hend : Hid (ps ++ [(s.extract f i).data.toList] = Dk.split s.data.toList) := by
          show _ = _; subst he; exact HS.out.end_
        have Hn := Lib.hid HI.out.1
        have He := Lib.hid he
        clear he
        go_wp2_with (refine wpList_pushE rfl (.tmp 22) (.tmp 27) 45 9 rfl w.heap.size i9 _ 16 Tryz.underlying45 hi9 hz90 hz91 hz92 rfl u3 n (strCells ps) rfl HO.out _ rfl 1 rfl hnl (by decide) hsz ?_; intro v5 w5 o5 g5 k5)
        rw [strCells_snoc] at o5
        refine ⟨⟨i + 1, i + 1, n + 1, _, by go_num, by go_num, by omega, by omega, by omega, by rw [Hn.out]; simp, o5, HB.out.trans (own_size_low HO.out g5 hsz), .inr ⟨by rw [He.out], Hend.out⟩⟩, by simp [intOf]; omega⟩
      · have hlt : i < s.size := by omega
        have he1 : ((i : Int) == (s.size : Int)) = false := by simp; omega
        have hc8 : s[i].toNat < 256 := UInt8.toNat_lt _
        by_cases hb : s[i] = 32
        · have hb1 : ((s[i].toNat : Int) == 32) = true := by rw [hb]; rfl
          have HS2 := Lib.hid (HS.out.cut hlt hb)
          have Hn := Lib.hid HI.out.1
          clear hb he
          go_wp2_with (refine wpList_pushE rfl (.tmp 22) (.tmp 27) 45 9 rfl w.heap.size i9 _ 16 Tryz.underlying45 hi9 hz90 hz91 hz92 rfl u3 n (strCells ps) rfl HO.out _ rfl 1 rfl hnl (by decide) hsz ?_; intro v5 w5 o5 g5 k5)
          rw [strCells_snoc] at o5
          refine ⟨⟨i + 1, i + 1, n + 1, _, by go_num, by go_num, by omega, by omega, by omega, by rw [Hn.out]; simp, o5, HB.out.trans (own_size_low HO.out g5 hsz), .inl HS2.out⟩, by simp [intOf]; omega⟩
        · have hb1 : ((s[i].toNat : Int) == 32) = false := by
            rw [beq_eq_false_iff_ne]; intro e; apply hb; apply UInt8.toNat_inj.1; simpa using (show s[i].toNat = 32 by omega)
          have HS2 := Lib.hid (HS.out.next hlt hb)
          have Hn := Lib.hid HI.out.1
          clear hb he
          go_wp2_with fail
          refine ⟨⟨i + 1, f, n, ps, rfl, by go_num, by omega, by omega, by omega, Hn.out, HO.out, HB.out, .inl HS2.out⟩, by simp [intOf]; omega⟩
    · have hps : ps = Dk.split s.data.toList := by
        rcases HI.out.2.2.2 with h | ⟨_, h⟩
        · have := h.hi; omega
        · exact h
      have HF : Hid (wr.ownsRow w.heap.size 9 1 u3 (Dk.split s.data.toList).length (strCells (Dk.split s.data.toList))) := by
        have := HO.out; rw [HI.out.1, hps] at this; exact this
      clear hps
      go_wp2_with fail
      go_ret
      exact ⟨_, rfl, HF.out, HB.out⟩
end Go.Proofs.YtigfogpfcbcdhaaGreatDoor
