/- strings.SplitSeq at one byte: its iterator hands over the text's parts, in order. -/
import Derived.Test.YtehdbceemdpbaaaDoorSeq
namespace Go.Proofs.YtehdbceemdpbaaaDoor
open Go Go.RowKit Go.Shelf
attribute [local go_sem] Oper.semAt_some

/-- What a round keeps: the boxes that the iterator holds. -/
def KeepsBoxes (b : Nat) (A B : World) : Prop := ∀ k t v, (k = b ∨ k = b + 1 ∨ k = b + 2) → Boxed A k t v → Boxed B k t v
theorem keepsBoxes_t {b : Nat} {A B C : World} (h : KeepsBoxes b A B) (k : KeepsBoxes b B C) : KeepsBoxes b A C := fun j t v hj hv => k j t v hj (h j t v hj hv)
theorem keepsBoxes_b {b l : Nat} (W : World) (o o' : Obj) (hl : b + 2 < l) (_ : W.heap[l]? = some o) : KeepsBoxes b W (W.putObj l o') := fun j t v hj hv =>
  hv.kept (grownBy_putObj' W l o') (by intro e; injection e; omega)
def mkS (l : List UInt8) : ByteArray := ⟨l.toArray⟩
theorem mkS_data (s : ByteArray) : mkS s.data.toList = s := by cases s; simp [mkS]
def partsS (c : UInt8) (s : ByteArray) : List ByteArray := (Od.parts c s.data.toList).map mkS
/-- A cut of the text, at its first byte c. -/
theorem index_none {l : List UInt8} {c : UInt8} (h : Lib.indexByte l c < 0) : Od.parts c l = [l] := by
  have h1 := Lib.indexByte_ge l c
  have e : Lib.indexByte l c = -1 := by omega
  refine Od.parts_none (fun b hb hbc => ?_)
  obtain ⟨k, hk, he⟩ := List.mem_iff_getElem.1 hb
  exact Lib.indexByte_none e k (by rw [List.getElem?_eq_getElem hk, he, hbc])
theorem index_some {l : List UInt8} {c : UInt8} {o : Nat} (h : Lib.indexByte l c = o) : o < l.length ∧ Od.parts c l = l.take o :: Od.parts c (l.drop (o + 1)) := by
  obtain ⟨h1, h2⟩ := Lib.indexByte_some h
  have hlt : o < l.length := (List.getElem?_eq_some_iff.1 h1).1
  have he : l[o] = c := (List.getElem?_eq_some_iff.1 h1).2
  refine ⟨hlt, ?_⟩
  have hs : l = l.take o ++ c :: l.drop (o + 1) := by
    rw [← he, ← List.drop_eq_getElem_cons hlt, List.take_append_drop]
  conv => lhs; rw [hs]
  refine Od.parts_cut (fun x hx hxc => ?_)
  obtain ⟨k, hk, hke⟩ := List.mem_iff_getElem.1 hx
  have hko : k < o := by rw [List.length_take] at hk; omega
  refine h2 k hko ?_
  rw [List.getElem_take] at hke
  rw [List.getElem?_eq_getElem (by omega), hke, hxc]
theorem partsS_none {s : ByteArray} {c : UInt8} (h : Lib.indexByte s.data.toList c < 0) : partsS c s = [s] := by
  unfold partsS; rw [index_none h]; simp [mkS_data]
theorem partsS_some {s : ByteArray} {c : UInt8} {o : Nat} (h : Lib.indexByte s.data.toList c = o) : o < s.size ∧ partsS c s = s.extract 0 o :: partsS c (s.extract (o + 1) s.size) := by
  obtain ⟨h1, h2⟩ := index_some h
  refine ⟨h1, ?_⟩
  unfold partsS
  rw [h2, List.map_cons]
  congr 1
  · show (⟨_⟩ : ByteArray) = _; rw [Lib.extract_eq]; simp
  · rw [show (s.extract (o + 1) s.size).data.toList = s.data.toList.drop (o + 1) by
      rw [Lib.extract_data, List.take_of_length_le (by rw [List.length_drop]; exact Nat.le_refl _)]]
/-- The size of the text in a cell: for the loop's measure. -/
def restAt (W : World) (b : Nat) : Nat := match W.cell? ⟨b, 0, none⟩ with | some (.string s) => s.size | _ => 0
theorem restAt_eq {W : World} {b t : Nat} {s : ByteArray} (h : Boxed W b t (.string s)) : restAt W b = s.size := by unfold restAt; rw [h.cell]

set_option maxRecDepth 100000 in
set_option maxHeartbeats 2000000 in
theorem split_stops (n : Nat) (hn : 1 ≤ n) (b : Nat) (c : UInt8) (s : ByteArray) (hs : s.size ≤ 1000000) (w : World) (hb : b + 2 < w.heap.size)
    (h1 : Boxed w b 9 (.string s)) (h2 : Boxed w (b + 1) 9 (.string ⟨#[c]⟩)) (h3 : Boxed w (b + 2) 3 (.int .i64 0)) :
    StateSeq Fence.wide n Tryd.prog 73 #[.pointer (some ⟨b + 1, 0, none⟩), .pointer (some ⟨b, 0, none⟩), .pointer (some ⟨b + 2, 0, none⟩)] (fun x : ByteArray => #[.string x]) (KeepsBoxes b) (partsS c s) w b := by
  intro l J Jx W hW hJ hY h0
  have g1 : Boxed W b 9 (.string s) := (hW.block b (by omega)).trans h1
  have g2 : Boxed W (b + 1) 9 (.string ⟨#[c]⟩) := (hW.block (b + 1) (by omega)).trans h2
  have g3 : Boxed W (b + 2) 3 (.int .i64 0) := (hW.block (b + 2) hb).trans h3
  refine callsIn_of_wp Tryd.func73 rfl trivial ?_ rfl
  simp only [Tryd.ntmps73, List.size_toArray, List.length_cons, List.length_nil, Nat.reduceAdd, Nat.reduceSub, Array.replicate_succ, Array.replicate_zero, List.push_toArray, List.append_toArray, List.nil_append, List.cons_append]
  have c2 := g2.cell
  have HY := Lib.hid hY
  have HJ := Lib.hid hJ
  clear hY hJ h1 h2 h3
  gi_wp2
  gi_loopw [] (fun wr => ∃ (pre : List ByteArray) (r : ByteArray), Boxed wr b 9 (.string r) ∧ Boxed wr (b + 1) 9 (.string ⟨#[c]⟩) ∧ Boxed wr (b + 2) 3 (.int .i64 0) ∧ Hid (J pre wr ∧ pre ++ partsS c r = partsS c s) ∧ r.size ≤ 1000000) (fun wr => restAt wr b)
  case atStart => exact ⟨[], s, g1, g2, g3, ⟨h0, rfl⟩, hs⟩
  case round =>
    clear g1 g2 g3 h0 c2
    obtain ⟨pre, r, g1, g2, g3, HR, hr⟩ := hrel
    have c1 := g1.cell
    have c2 := g2.cell
    have c3 := g3.cell
    have f1 := g1.frozen
    have hra := Lib.hid (restAt_eq g1)
    have hge := Lib.indexByte_ge r.data.toList c
    obtain ⟨o, ho⟩ : ∃ o, o = Lib.indexByte r.data.toList c := ⟨_, rfl⟩
    have Ho := Lib.hid ho
    rw [← ho] at hge
    clear ho
    by_cases hneg : o < 0
    · have hp : partsS c r = [r] := partsS_none (by rw [← Ho.out]; exact hneg)
      have hpre : pre ++ [r] = partsS c s := by rw [← hp]; exact HR.out.2
      obtain ⟨fn, tmps, assign, body, hy, hR⟩ := HY.out pre r wr HR.out.1 (by rw [hpre]; exact List.prefix_refl _)
      have HR2 := Lib.hid hR
      have Hpre := Lib.hid hpre
      clear hR hpre hp
      gi_wp2_with (refine ⟨trivial, ?_⟩; gi_at_call 74; refine (callsIn_wide.2 (Tryd.strings_Index_one _ c _)).mono ?_; rintro e w' ⟨rfl, rfl⟩; rw [← Ho.out])
      refine HR2.out.mono ?_
      rintro e W3 (⟨rfl, hJ3, _⟩ | ⟨rfl, hx3⟩)
      · gi_wp2
        go_end0
        exact ⟨⟨_, rfl⟩, .inl (by rw [← Hpre.out]; exact hJ3)⟩
      · gi_wp2
        go_end0
        exact ⟨⟨_, rfl⟩, .inr ⟨_, by rw [← Hpre.out]; exact List.prefix_refl _, hx3⟩⟩
    · obtain ⟨j, rfl⟩ := Int.eq_ofNat_of_zero_le (show 0 ≤ o by omega)
      obtain ⟨hjl, hp⟩ := partsS_some Ho.out.symm
      have hpre : pre ++ [r.extract 0 j] ++ partsS c (r.extract (j + 1) r.size) = partsS c s := by rw [← HR.out.2, hp]; simp
      obtain ⟨fn, tmps, assign, body, hy, hR⟩ := HY.out pre (r.extract 0 j) wr HR.out.1 ⟨_, hpre⟩
      have HR2 := Lib.hid hR
      have Hpre := Lib.hid hpre
      clear hR hpre hp
      gi_wp2_with (refine ⟨trivial, ?_⟩; gi_at_call 74; refine (callsIn_wide.2 (Tryd.strings_Index_one _ c _)).mono ?_; rintro e w' ⟨rfl, rfl⟩; rw [← Ho.out])
      refine HR2.out.mono ?_
      rintro e W3 (⟨rfl, hJ3, hk3⟩ | ⟨rfl, hx3⟩)
      · have k1 := hk3 b _ _ (.inl rfl) g1
        have k2 := hk3 (b + 1) _ _ (.inr (.inl rfl)) g2
        have k3 := hk3 (b + 2) _ _ (.inr (.inr rfl)) g3
        have d1 := k1.cell
        have d2 := k2.cell
        have d3 := k3.cell
        have e1 := k1.frozen
        clear c1 c2 c3 f1 g1 g2 g3
        gi_wp2
        have hz : (r.extract (j + 1) r.size).size = r.size - (j + 1) := by simp
        go_roundw
        case rel => exact ⟨pre ++ [r.extract 0 j], r.extract (j + 1) r.size, k1.set _, k2.kept (grownBy_setCell' _ _ _) (by simp), k3.kept (grownBy_setCell' _ _ _) (by simp), ⟨HJ.out _ _ _ hJ3, Hpre.out⟩, by omega⟩
        case measure => rw [hra.out, restAt_eq (k1.set _), hz]; omega
      · gi_wp2
        refine bodyPost_ret (results_none rfl _ _ _) rfl ?_
        exact ⟨⟨_, rfl⟩, .inr ⟨_, ⟨_, Hpre.out⟩, hx3⟩⟩
end Go.Proofs.YtehdbceemdpbaaaDoor
