/- The walk of the desk's unhex: the bytes of a text of digits, or none. Condition: the text is short. -/
import Derived.Test.YtigfogpfcbcdhaaGreatDoorDeskU
import Derived.Laws.OwnMore
import Derived.WalkSmall
set_option linter.unusedVariables false
set_option linter.unusedSimpArgs false
namespace Go.Proofs.YtigfogpfcbcdhaaGreatDoor
open Go Go.RowKit
theorem own_low {w : World} {base b' : Nat} {e : TypeId} {size n : Nat} {v : Value} {xs : List Value} (h : w.ownsRow base e size v n xs) (hb : b' ≤ base) : w.ownsRow b' e size v n xs :=
  ⟨h.1, by
    rcases h.2 with h | ⟨g, cap, cur, h1, h2, h3⟩
    · exact .inl h
    · exact .inr ⟨g, cap, cur, h1, Nat.le_trans hb h2, h3⟩⟩
theorem own_succ {w : World} {base : Nat} {e : TypeId} {size k : Nat} {v : Value} {xs : List Value} (h : w.ownsRow base e size v (k + 1) xs) : ∃ g cap, v = .slice (some ⟨g, 0, none⟩) (k + 1) cap := by
  rcases h.2 with ⟨_, h0⟩ | ⟨g, cap, _, rfl, _⟩
  · omega
  · exact ⟨g, cap, rfl⟩
theorem nil8 (w : World) (base : Nat) : w.ownsRow base 5 1 (.slice none 0 0) (List.length ([] : List UInt8)) (Lib.byteCells []) := World.ownsRow_nil _ _ _ _
theorem infoU8 : (Tryz.prog.info? 5).map (fun i => (i.zero, i.size, i.bytes)) = some (some (.int .u8 0), 1, 1) := by kernel_rfl
theorem decode_pos (s : ByteArray) (pos : Nat) (h : pos < s.size) : 1 ≤ (Utf8.decode s pos).2 := by
  by_cases ha : (s[pos]'h).toNat < 128
  · rw [decode_ascii s pos h ha]
    exact Nat.le_refl _
  · exact (decode_high s pos h (by omega)).2
/-- What unhex answers. -/
def UnhexPost (l : List UInt8) (w : World) (e : Ending) (w' : World) : Prop :=
  match Dk.unhex l with
  | some b => ∃ v, e = .returned (.tuple #[v, .bool true]) ∧ w'.ownsRow w.heap.size 5 1 v b.length (Lib.byteCells b) ∧ Below w.heap.size w w'
  | none => e = .returned (.tuple #[.slice none 0 0, .bool false]) ∧ Below w.heap.size w w'
theorem unhex_no {l : List UInt8} {w w' : World} {e : Ending} (h : Dk.unhex l = none) (he : e = .returned (.tuple #[.slice none 0 0, .bool false])) (hb : Below w.heap.size w w') : UnhexPost l w e w' := by
  unfold UnhexPost; rw [h]; exact ⟨he, hb⟩
theorem unhex_yes {l b : List UInt8} {w w' : World} {e : Ending} {v : Value} (h : Dk.unhex l = some b) (he : e = .returned (.tuple #[v, .bool true])) (ho : w'.ownsRow w.heap.size 5 1 v b.length (Lib.byteCells b)) (hb : Below w.heap.size w w') : UnhexPost l w e w' := by
  unfold UnhexPost; rw [h]; exact ⟨v, he, ho, hb⟩
theorem or_low (x y : Nat) (hx : x < 16) (hy : y < 16) : bits BinOp.or IntKind.u8 ((16 * x : Nat) : Int) (y : Int) = ((16 * x + y : Nat) : Int) := by
  have key : ∀ a b : Fin 16, bits BinOp.or IntKind.u8 ((16 * a.val : Nat) : Int) ((b.val : Nat) : Int) = ((16 * a.val + b.val : Nat) : Int) := by decide +kernel
  exact key ⟨x, hx⟩ ⟨y, hy⟩
/-- After so many digits. -/
structure UInv (s : ByteArray) (pos : Nat) (out : List UInt8) : Prop where
  hp : pos ≤ s.size
  ho : out = Dk.partL (s.data.toList.take pos)
  hd : ∀ c ∈ s.data.toList.take pos, Dk.dig? c ≠ none
theorem UInv.len {s : ByteArray} {pos : Nat} {out : List UInt8} (h : UInv s pos out) : out.length = (pos + 1) / 2 := by
  have hl : s.data.toList.length = s.size := rfl
  have := h.hp
  rw [h.ho, Dk.partL_length, List.length_take, hl, Nat.min_eq_left h.hp]
theorem UInv.bad {s : ByteArray} {pos : Nat} (h45 : (s.toList == [45]) = false) (h : pos < s.size) (hn : Dk.dig? s[pos] = none) : Dk.unhex s.data.toList = none := by
  unfold Dk.unhex
  rw [Lib.toList_data] at h45
  rw [if_neg (by simpa using h45)]
  split
  · rfl
  · cases hu : Dk.unhexL s.data.toList with
    | none => rfl
    | some r => exact absurd hn (Dk.unhexL_all _ r hu s[pos] (List.getElem_mem (l := s.data.toList) h))
theorem UInv.good {s : ByteArray} {out : List UInt8} (hI : UInv s s.size out) (h45 : (s.toList == [45]) = false) (h0 : 0 < s.size) (h2 : s.size % 2 = 0) : Dk.unhex s.data.toList = some out := by
  have hl : s.data.toList.length = s.size := rfl
  have e : s.data.toList.take s.size = s.data.toList := List.take_of_length_le (by omega)
  have ho := hI.ho
  have hd := hI.hd
  rw [e] at ho hd
  unfold Dk.unhex
  rw [Lib.toList_data] at h45
  rw [if_neg (by simpa using h45), if_neg (by intro h; rw [h] at hl; simp at hl; omega), ho]
  exact Dk.unhexL_part _ (by omega) hd
theorem UInv.even {s : ByteArray} {pos x : Nat} {out : List UInt8} (hI : UInv s pos out) (h : pos < s.size) (h2 : pos % 2 = 0) (hx : Dk.dig? s[pos] = some x) : UInv s (pos + 1) (out ++ [UInt8.ofNat (16 * x)]) := by
  have hl : s.data.toList.length = s.size := rfl
  have e : s.data.toList.take (pos + 1) = s.data.toList.take pos ++ [s[pos]] := List.take_succ_eq_append_getElem (l := s.data.toList) h
  refine ⟨h, ?_, ?_⟩
  · rw [e, Dk.partL_even (pos / 2) _ _ (by rw [List.length_take]; omega), ← hI.ho]
    simp [Dk.digR, hx]
  · rw [e]; intro c hc
    rw [List.mem_append, List.mem_singleton] at hc
    rcases hc with hc | rfl
    · exact hI.hd c hc
    · rw [hx]; simp
theorem UInv.odd {s : ByteArray} {pos n x : Nat} {out : List UInt8} (hI : UInv s pos out) (hpos : pos = 2 * n + 1) (h : pos < s.size) (hx : Dk.dig? s[pos] = some x) :
    ∃ (l : List UInt8) (y : Nat), y < 16 ∧ l.length = n ∧ out = l ++ [UInt8.ofNat (16 * y)] ∧ UInv s (pos + 1) (l ++ [UInt8.ofNat (16 * y + x)]) := by
  subst hpos
  have hl : s.data.toList.length = s.size := rfl
  have e1 : s.data.toList.take (2 * n + 1) = s.data.toList.take (2 * n) ++ [s[2 * n]] := List.take_succ_eq_append_getElem (l := s.data.toList) (by omega)
  have e2 : s.data.toList.take (2 * n + 2) = s.data.toList.take (2 * n) ++ [s[2 * n], s[2 * n + 1]] := by
    rw [show s.data.toList.take (2 * n + 2) = s.data.toList.take (2 * n + 1) ++ [s[2 * n + 1]] from List.take_succ_eq_append_getElem (l := s.data.toList) h, e1, List.append_assoc]; rfl
  have hd := hI.hd
  rw [e1] at hd
  obtain ⟨y, hy⟩ := Option.ne_none_iff_exists'.1 (hd s[2 * n] (by simp))
  refine ⟨Dk.partL (s.data.toList.take (2 * n)), y, Dk.dig_lt hy, ?_, ?_, h, ?_, ?_⟩
  · rw [Dk.partL_length, List.length_take]; omega
  · rw [hI.ho, e1, Dk.partL_even n _ _ (by rw [List.length_take]; omega)]; simp [Dk.digR, hy]
  · rw [e2, Dk.partL_odd n _ _ _ (by rw [List.length_take]; omega)]; simp [Dk.digR, hx, hy]
  · rw [e2]; intro c hc
    rw [List.mem_append] at hc
    rcases hc with hc | hc
    · exact hd c (by rw [List.mem_append]; exact .inl hc)
    · simp only [List.mem_cons, List.not_mem_nil, or_false] at hc
      rcases hc with rfl | rfl
      · rw [hy]; simp
      · rw [hx]; simp
set_option maxHeartbeats 4000000 in
set_option maxRecDepth 100000 in
theorem unhex_loop (s : ByteArray) (w : World) (hs : s.size ≤ 100000) (h45 : (s.toList == [45]) = false) (h0 : 0 < s.size) (h2 : s.size % 2 = 0) :
    Calls Tryz.prog 21 #[.string s] w (UnhexPost s.data.toList w) := by
  obtain ⟨i0, hi0, hz0, hz1, hz2⟩ := info_parts infoU8
  have he : s.toList.isEmpty = false := by
    rw [Lib.toList_data]; cases h : s.data.toList with
    | nil => have hl : s.data.toList.length = s.size := rfl; rw [h] at hl; simp at hl; omega
    | cons a b => rfl
  have h2' : ((s.size : Int) % 2 == 0) = true := by simp; omega
  have h2'' : ((s.size : Int) % 2 != 0) = false := by simp; omega
  have H2 := Lib.hid h2
  have H45 := Lib.hid h45
  clear h2
  go_enter Tryz.func21, Tryz.ntmps21
  go_wp2_with fail
  go_loopw [4] (fun t4 wr => ∃ (pos : Nat) (out : List UInt8), wr.heap[w.heap.size]? = some (.stringIter s pos) ∧ Hid (UInv s pos out ∧ wr.ownsRow (w.heap.size + 1) 5 1 t4 out.length (Lib.byteCells out) ∧ Below w.heap.size w wr)) (fun _ wr => s.size - wr.iterPos w.heap.size)
  case atStart => exact ⟨0, [], World.iter_heap w s 0, ⟨Nat.zero_le _, rfl, by simp⟩, nil8 _ _, (Below.refl _ w).alloc (Nat.le_refl _) _⟩
  case round =>
    obtain ⟨pos, out, hit, HI⟩ := hrel
    have hol := HI.out.1.len
    have hpl := HI.out.1.hp
    by_cases hp : pos < s.size
    · have hnx : ∀ ty, (Instr.next (.pointer (some ⟨w.heap.size, 0, none⟩)) true ty).run Tryz.prog wr = _ := fun ty => Lib.run_next_any_at wr w.heap.size s pos ty hit hp
      have hip : wr.iterPos w.heap.size = pos := by simp [World.iterPos, hit]
      have Hip := Lib.hid hip
      clear hip
      by_cases ha : s[pos].toNat < 128
      · rw [decode_ascii s pos hp ha] at hnx
        have hit2 := Lib.hid (Lib.iterAt_heap wr w.heap.size s pos (pos + 1) hit)
        have hbw2 := Lib.hid (Lib.below_iterAt HI.out.2.2 (k := w.heap.size) (Nat.le_refl _) s (pos + 1))
        have hown2 := Lib.hid (ownsRow_iterAt HI.out.2.1 (k := w.heap.size) (by omega) s (pos + 1))
        cases hd : Dk.dig? s[pos] with
        | none =>
          have Hv := Lib.hid (Dk.digV_none hd)
          have Hf : Hid (∀ w', Below w.heap.size w w' → UnhexPost s.data.toList w (.returned (.tuple #[.slice none 0 0, .bool false])) w') := fun w' hb => unhex_no (UInv.bad H45.out hp hd) rfl hb
          clear hd
          go_wp2_with fail
          refine (digit_any _ _ (by omega) (by omega)).mono ?_
          rintro e w1 ⟨rfl, rfl⟩
          rw [Hv.out]
          go_wp2_with fail
          go_ret2
          exact Hf.out _ hbw2.out
        | some x =>
          have hx := Dk.dig_lt hd
          have Hv := Lib.hid (Dk.digV_some hd)
          rcases (show pos % 2 = 0 ∨ pos % 2 = 1 by omega) with hpar | hpar
          · have Hn := Lib.hid (HI.out.1.even hp hpar hd)
            have hp2 : ((pos : Int) % 2 == 0) = true := by simp; omega
            clear hd hpar
            go_wp2_with fail
            refine (digit_any _ _ (by omega) (by omega)).mono ?_
            rintro e w1 ⟨rfl, rfl⟩
            rw [Hv.out]
            have HC : Hid ((x : Int) * 16 = ((UInt8.ofNat (16 * x)).toNat : Int)) := by show _ = _; rw [UInt8.toNat_ofNat']; omega
            have hol2 : out.length ≤ 100000000 := by omega
            have hz : (w.heap.size + 1) ≤ (wr.iterAt w.heap.size s (pos + 1)).heap.size := by rw [Lib.iterAt_size]; have := (Array.getElem?_eq_some_iff.1 hit).1; omega
            go_wp2_with (refine wpList_push rfl (.tmp 36) (.tmp 40) 52 rfl (w.heap.size + 1) i0 Tryz.underlying52 hi0 hz0 hz1 hz2 _ out rfl hown2.out _ (UInt8.ofNat (16 * x)) HC.out 1 rfl hol2 hz ?_; intro v2 w2 A2)
            have hit3 : w2.heap[w.heap.size]? = some (.stringIter s (pos + 1)) := (A2.grown.block w.heap.size (by omega) (fun e => by have := (hown2.out.lt _ e.symm).1; omega)).trans hit2.out
            have hbw3 := hbw2.out.trans ((A2.below hown2.out hz).mono (by omega))
            go_roundw
            case rel => exact ⟨pos + 1, _, hit3, Hn.out, A2.own, hbw3⟩
            case measure => rw [Hip.out]; simp only [World.iterPos, hit3]; omega
          · obtain ⟨n, hpos⟩ : ∃ n, pos = 2 * n + 1 := ⟨pos / 2, by omega⟩
            obtain ⟨l, y, hy, hln, hout, hn⟩ := HI.out.1.odd hpos hp hd
            have Hn := Lib.hid hn
            have hp2 : ((pos : Int) % 2 == 0) = false := by simp; omega
            have hq : (pos : Int) / 2 = (n : Int) := by omega
            have hnp : n < pos := by omega
            clear hd hpar hn hpos
            subst hout
            obtain ⟨g, cap, rfl⟩ := own_succ (k := n) (by have := hown2.out; rwa [List.length_append, List.length_singleton, hln] at this)
            have hlen : (l ++ [UInt8.ofNat (16 * y)]).length = n + 1 := by rw [List.length_append, List.length_singleton, hln]
            have hown3 := hown2.out
            rw [hlen] at hown3
            have hcell := hown3.cellAt n (by omega)
            have hlast : (Lib.byteCells (l ++ [UInt8.ofNat (16 * y)]))[n]? = some (.int .u8 ((16 * y : Nat) : Int)) := by
              simp [Lib.byteCells, ← hln]; omega
            rw [hlast] at hcell
            have hfz := hown3.frozenAt n
            have HO := Lib.hid hown3
            obtain ⟨b, hb⟩ : ∃ b : Int, b = ((16 * y : Nat) : Int) := ⟨_, rfl⟩
            rw [← hb] at hcell
            have Hb := Lib.hid hb
            have hb0 : 0 ≤ b ∧ b ≤ 255 := by omega
            have Hnew : Hid (∀ W : World, W.ownsRow (w.heap.size + 1) 5 1 (.slice (some ⟨g, 0, none⟩) (n + 1) cap) (n + 1) (Lib.byteCells (l ++ [UInt8.ofNat (16 * y)])) →
                (W.setCell ⟨g, n, none⟩ (.int .u8 (bits BinOp.or IntKind.u8 b (x : Int)))).ownsRow (w.heap.size + 1) 5 1 (.slice (some ⟨g, 0, none⟩) (n + 1) cap) (l ++ [UInt8.ofNat (16 * y + x)]).length (Lib.byteCells (l ++ [UInt8.ofNat (16 * y + x)]))) := by
              intro W h
              have h2 := (h.stored n (.int .u8 (bits BinOp.or IntKind.u8 b (x : Int)))).1
              have e : (Lib.byteCells (l ++ [UInt8.ofNat (16 * y)])).set n (.int .u8 (bits BinOp.or IntKind.u8 b (x : Int))) = Lib.byteCells (l ++ [UInt8.ofNat (16 * y + x)]) := by
                rw [hb, or_low y x hy hx]
                simp only [Lib.byteCells, List.map_append, List.map_cons, List.map_nil]
                rw [List.set_append_right _ _ (by simp [hln])]
                simp [hln]
                omega
              rw [e] at h2
              rw [List.length_append, List.length_singleton, hln]
              exact h2
            have Hg : Hid (w.heap.size + 1 ≤ g) := (hown3.lt g rfl).1
            clear hlast hlen hown3 hb hln
            go_wp2_with fail
            refine (digit_any _ _ (by omega) (by omega)).mono ?_
            rintro e w1 ⟨rfl, rfl⟩
            rw [Hv.out]
            go_wp2_with fail
            have hit3 : ((wr.iterAt w.heap.size s (pos + 1)).setCell ⟨g, n, none⟩ (.int .u8 (bits BinOp.or IntKind.u8 b (x : Int)))).heap[w.heap.size]? = some (.stringIter s (pos + 1)) :=
              (Below.heap_setCell _ ⟨g, n, none⟩ _ w.heap.size (by have := Hg.out; show w.heap.size ≠ g; omega)).trans hit2.out
            refine ⟨⟨pos + 1, _, hit3, Hn.out, Hnew.out _ HO.out, hbw2.out.setCell (p := ⟨g, n, none⟩) (by have := Hg.out; show w.heap.size ≤ g; omega) _⟩, ?_⟩
            rw [Hip.out]; simp only [World.iterPos, hit3]; omega
      · have hh := (decode_high s pos hp (by omega)).1
        have hle := decode_le s pos
        have hbw2 := Lib.hid (Lib.below_iterAt HI.out.2.2 (k := w.heap.size) (Nat.le_refl _) s (pos + (Utf8.decode s pos).2))
        have hd : Dk.dig? s[pos] = none := by
          cases hd : Dk.dig? s[pos] with
          | none => rfl
          | some x => exact absurd (Dk.dig_low hd) ha
        have Hf : Hid (∀ w', Below w.heap.size w w' → UnhexPost s.data.toList w (.returned (.tuple #[.slice none 0 0, .bool false])) w') := fun w' hb => unhex_no (UInv.bad H45.out hp hd) rfl hb
        clear hd
        go_wp2_with fail
        refine (digit_any _ _ (by omega) (by omega)).mono ?_
        rintro e w1 ⟨rfl, rfl⟩
        rw [Dk.digV_high (by omega)]
        go_wp2_with fail
        go_ret2
        exact Hf.out _ hbw2.out
    · obtain rfl : pos = s.size := by omega
      have hnx : ∀ ty, (Instr.next (.pointer (some ⟨w.heap.size, 0, none⟩)) true ty).run Tryz.prog wr = _ := fun ty => Lib.run_next_end_at wr w.heap.size s s.size ty hit hp
      have Hf := Lib.hid (unhex_yes (HI.out.1.good H45.out h0 H2.out) rfl (own_low HI.out.2.1 (by omega)) HI.out.2.2)
      go_wp2_with fail
      go_ret2
      exact Hf.out
theorem unhex_any (s : ByteArray) (w : World) (hs : s.size ≤ 100000) : Calls Tryz.prog 21 #[.string s] w (UnhexPost s.data.toList w) := by
  have hl : s.data.toList.length = s.size := rfl
  by_cases h45 : (s.toList == [45]) = true
  · have hu : Dk.unhex s.data.toList = some [] := by
      rw [Lib.toList_data] at h45
      unfold Dk.unhex; rw [if_pos (by simpa using h45)]
    have Hf : Hid (UnhexPost s.data.toList w (.returned (.tuple #[.slice none 0 0, .bool true])) w) := unhex_yes hu rfl (nil8 _ _) (Below.refl _ _)
    clear hu
    go_enter Tryz.func21, Tryz.ntmps21
    go_wp2_with fail
    go_ret2
    exact Hf.out
  · have h45' : (s.toList == [45]) = false := by simpa using h45
    clear h45
    by_cases h0 : s.size = 0
    · have hs0 : s.data.toList = [] := List.eq_nil_of_length_eq_zero (by omega)
      have Hf : Hid (UnhexPost s.data.toList w (.returned (.tuple #[.slice none 0 0, .bool false])) w) := unhex_no (by rw [hs0]; rfl) rfl (Below.refl _ _)
      have he : s.toList.isEmpty = true := by rw [Lib.toList_data, hs0]; rfl
      clear hs0 h0
      go_enter Tryz.func21, Tryz.ntmps21
      go_wp2_with fail
      go_ret2
      exact Hf.out
    · by_cases h2 : s.size % 2 = 0
      · exact unhex_loop s w hs h45' (by omega) h2
      · have hu : Dk.unhex s.data.toList = none := by
          rw [Lib.toList_data] at h45'
          unfold Dk.unhex
          rw [if_neg (by simpa using h45')]
          split
          · rfl
          · exact Dk.unhexL_odd _ (by omega)
        have he : s.toList.isEmpty = false := by
          rw [Lib.toList_data]; cases h : s.data.toList with
          | nil => rw [h] at hl; simp at hl; omega
          | cons a b => rfl
        have h2' : ((s.size : Int) % 2 == 0) = false := by simp; omega
        have h2'' : ((s.size : Int) % 2 != 0) = true := by simp; omega
        have Hf : Hid (UnhexPost s.data.toList w (.returned (.tuple #[.slice none 0 0, .bool false])) w) := unhex_no hu rfl (Below.refl _ _)
        clear hu h2 h0
        go_enter Tryz.func21, Tryz.ntmps21
        go_wp2_with fail
        go_ret2
        exact Hf.out
end Go.Proofs.YtigfogpfcbcdhaaGreatDoor
