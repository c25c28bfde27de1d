/- The walks of the desk's small calls: told, into, cut, start; the disk's New, Cut, Start. Conditions: those that each call in these scripts has. -/
import Derived.Test.YtigfogpfcbcdhaaGreatDoorDeskE
import Derived.Test.YtigfogpfcbcdhaaGreatDoorDeskI
set_option linter.unusedVariables false
set_option linter.unusedSimpArgs false
namespace Go.Proofs.YtigfogpfcbcdhaaGreatDoor
open Go Go.RowKit
def toldL (n : Int) : List UInt8 := if n = 0 then [111, 107] else [101, 114, 114, 111, 114, 32] ++ Lib.itoa n
/-- What a play of a line may turn: the desk's block and the disk's. -/
structure Moved (d k : Nat) (w w' : World) : Prop where
  os : w'.os = w.os
  tape : w'.tape = w.tape
  output : w'.output = w.output
  others : ∀ i, i < w.heap.size → i ≠ d → i ≠ k → w'.heap[i]? = w.heap[i]?
  keeps : KeepsOthers w w'
theorem Moved.size {d k : Nat} {w w' : World} (h : Moved d k w w') : w.heap.size ≤ w'.heap.size := h.keeps.size
theorem Moved.trans {d k : Nat} {A B C : World} (h : Moved d k A B) (g : Moved d k B C) : Moved d k A C :=
  ⟨g.os.trans h.os, g.tape.trans h.tape, g.output.trans h.output, fun i hi h1 h2 => (g.others i (Nat.lt_of_lt_of_le hi h.size) h1 h2).trans (h.others i hi h1 h2), h.keeps.trans g.keeps⟩
theorem Moved.of_below {d k : Nat} {w w' : World} (h : Below w.heap.size w w') : Moved d k w w' := ⟨h.os, h.tape, h.output, fun i hi _ _ => h.block i hi, keeps_below h⟩
theorem Moved.refl (d k : Nat) (w : World) : Moved d k w w := Moved.of_below (Below.refl _ w)
theorem Moved.set1 {d k : Nat} (w : World) (j : Nat) (u : Value) : Moved d k w (w.setCell ⟨d, j, none⟩ u) := ⟨rfl, rfl, rfl, fun i _ h _ => Below.heap_setCell _ _ _ _ h, KeepsOthers.setCell _ _ _⟩
theorem Moved.set2 {d k : Nat} (w : World) (j : Nat) (u : Value) : Moved d k w (w.setCell ⟨k, j, none⟩ u) := ⟨rfl, rfl, rfl, fun i _ _ h => Below.heap_setCell _ _ _ _ h, KeepsOthers.setCell _ _ _⟩
theorem Moved.below {d k n : Nat} {w w' : World} (h : Moved d k w w') (hd : n ≤ d) (hk : n ≤ k) (hn : n ≤ w.heap.size) : Below n w w' :=
  ⟨h.os, h.tape, h.output, h.size, fun i hi => h.others i (by omega) (by omega) (by omega)⟩
/-- The desk: its slot 3 holds u, it has the disk k, it serves none. -/
structure DeskAt (w : World) (d k : Nat) (u : Value) : Prop where
  desk : ∃ cs, Blk w d 95 cs ∧ cs.size = 72 ∧ cs[33]? = some u ∧ cs[48]? = some (.pointer (some ⟨k, 0, none⟩)) ∧ cs[71]? = some (.pointer none)
  disk : ∃ ds, Blk w k 112 ds ∧ ds.size = 4
theorem DeskAt.ne {w : World} {d k : Nat} {u : Value} (h : DeskAt w d k u) : d ≠ k := by
  obtain ⟨cs, h1, _⟩ := h.desk
  obtain ⟨ds, h2, _⟩ := h.disk
  exact h1.ne_ h2 (by decide)
theorem DeskAt.ltd {w : World} {d k : Nat} {u : Value} (h : DeskAt w d k u) : d < w.heap.size := by obtain ⟨cs, h1, _⟩ := h.desk; exact h1.lt
theorem DeskAt.ltk {w : World} {d k : Nat} {u : Value} (h : DeskAt w d k u) : k < w.heap.size := by obtain ⟨cs, h1, _⟩ := h.disk; exact h1.lt
theorem DeskAt.kept {w w' : World} {d k : Nat} {u : Value} (h : DeskAt w d k u) (hd : w'.heap[d]? = w.heap[d]?) (hk : w'.heap[k]? = w.heap[k]?) : DeskAt w' d k u := by
  obtain ⟨⟨cs, h1, h2⟩, ⟨ds, h3, h4⟩⟩ := h
  exact ⟨⟨cs, hd.trans h1, h2⟩, ⟨ds, hk.trans h3, h4⟩⟩
theorem DeskAt.below {w w' : World} {d k : Nat} {u : Value} (h : DeskAt w d k u) (hb : Below w.heap.size w w') : DeskAt w' d k u := h.kept (hb.block d h.ltd) (hb.block k h.ltk)
theorem DeskAt.slot {w : World} {d k : Nat} {u : Value} (h : DeskAt w d k u) (v : Value) : DeskAt (w.setCell ⟨d, 33, none⟩ v) d k v := by
  have hne := h.ne
  obtain ⟨⟨cs, h1, h2, h3, h4, h5⟩, ⟨ds, h6, h7⟩⟩ := h
  refine ⟨⟨_, h1.set_ 33 v, by simp [h2], ?_, ?_, ?_⟩, ds, h6.far (fun e => hne e.symm) v, h7⟩
  · rw [Array.getElem?_setIfInBounds_self]; simp [h2]
  · rw [Array.getElem?_setIfInBounds_ne (by decide)]; exact h4
  · rw [Array.getElem?_setIfInBounds_ne (by decide)]; exact h5
theorem DeskAt.power {w : World} {d k : Nat} {u : Value} (h : DeskAt w d k u) (j : Nat) (v : Value) : DeskAt (w.setCell ⟨k, j, none⟩ v) d k u := by
  have hne := h.ne
  obtain ⟨⟨cs, h1, h2⟩, ⟨ds, h6, h7⟩⟩ := h
  exact ⟨⟨cs, h1.far hne v, h2⟩, _, h6.set_ j v, by simp [h7]⟩
theorem DeskAt.cells {w : World} {d k : Nat} {u : Value} (h : DeskAt w d k u) : w.cell? ⟨d, 33, none⟩ = some u ∧ w.cell? ⟨d, 48, none⟩ = some (.pointer (some ⟨k, 0, none⟩)) ∧ w.cell? ⟨d, 71, none⟩ = some (.pointer none) ∧ ∀ j, w.frozen? ⟨d, j, none⟩ = false := by
  obtain ⟨cs, h1, h2, h3, h4, h5⟩ := h.desk
  exact ⟨by rw [h1.cell]; exact h3, by rw [h1.cell]; exact h4, by rw [h1.cell]; exact h5, h1.frozen⟩
theorem DeskAt.diskCells {w : World} {d k : Nat} {u : Value} (h : DeskAt w d k u) : (∃ x, w.cell? ⟨k, 1, none⟩ = some x) ∧ (∃ x, w.cell? ⟨k, 2, none⟩ = some x) ∧ ∀ j, w.frozen? ⟨k, j, none⟩ = false := by
  obtain ⟨ds, h1, h2⟩ := h.disk
  exact ⟨⟨ds[1], by rw [h1.cell]; exact Array.getElem?_eq_getElem (by omega)⟩, ⟨ds[2], by rw [h1.cell]; exact Array.getElem?_eq_getElem (by omega)⟩, h1.frozen⟩
set_option maxHeartbeats 1000000 in
theorem told_ok (w : World) : Calls Tryz.prog 36 #[.int .i64 0] w fun e w' => e = .returned (.string ⟨#[111, 107]⟩) ∧ w' = w := by
  go_enter Tryz.func36, Tryz.ntmps36
  go_wp2
  go_ret
  exact ⟨rfl, rfl⟩
set_option maxHeartbeats 1000000 in
theorem told_any (n : Int) (w : World) (h0 : 0 ≤ n) (h1 : n ≤ 1000) (he : Env w) : Calls Tryz.prog 36 #[.int .i64 n] w fun e w' => e = .returned (.string ⟨(toldL n).toArray⟩) ∧ Below w.heap.size w w' := by
  by_cases hn : n = 0
  · subst hn
    exact (told_ok w).mono fun e w' ⟨h, hw⟩ => ⟨h, hw ▸ Below.refl _ _⟩
  · have hz : (n == 0) = false := beq_eq_false_iff_ne.2 hn
    have hT : Hid (toldL n = [101, 114, 114, 111, 114, 32] ++ Lib.itoa n) := if_neg hn
    have hlen := Lib.itoa_length_le n (by omega) (by omega)
    go_enter Tryz.func36, Tryz.ntmps36
    go_wp2_with fail
    refine (itoa_any n _ (by omega) (by omega) he).mono ?_
    rintro e w1 ⟨rfl, hb⟩
    go_wp2_with fail
    go_ret
    refine ⟨?_, hb⟩
    rw [hT.out]
    rfl
set_option maxHeartbeats 1000000 in
theorem into_ok (d k : Nat) (u : Value) (A : Option Addr) (n c : Nat) (w : World) (h : DeskAt w d k u) :
    Calls Tryz.prog 53 #[.pointer (some ⟨d, 0, none⟩), .int .i64 3, .slice A n c, .int .i64 0] w fun e w' => e = .returned (.string ⟨#[111, 107]⟩) ∧ w' = w.setCell ⟨d, 33, none⟩ (.slice A n c) := by
  obtain ⟨c1, c2, c3, c4⟩ := h.cells
  have f1 := c4 33
  go_enter Tryz.func53, Tryz.ntmps53
  go_wp2_with fail
  refine (told_ok _).mono ?_
  rintro e w1 ⟨rfl, rfl⟩
  go_wp2_with fail
  go_ret
  exact ⟨rfl, rfl⟩
theorem cut_neg (w : World) : Calls Tryz.prog 112 #[.int .i64 (-1)] w fun e w' => e = .returned (.int .i64 (-1)) ∧ w' = w := by
  go_enter Tryz.func112, Tryz.ntmps112
  go_wp2
  go_ret
  exact ⟨rfl, rfl⟩
theorem diskCut_neg (k : Nat) (w : World) : Calls Tryz.prog 111 #[.pointer (some ⟨k, 0, none⟩), .int .i64 (-1)] w fun e w' => e = .returned (.int .i64 1) ∧ w' = w := by
  go_enter Tryz.func111, Tryz.ntmps111
  go_wp2
  go_ret
  exact ⟨rfl, rfl⟩
theorem diskStart_any (d k : Nat) (u : Value) (w : World) (h : DeskAt w d k u) : Calls Tryz.prog 186 #[.pointer (some ⟨k, 0, none⟩)] w fun e w' => e = .returned (.int .i64 0) ∧ DeskAt w' d k u ∧ Moved d k w w' := by
  obtain ⟨⟨x1, c1⟩, ⟨x2, c2⟩, c3⟩ := h.diskCells
  have f1 := c3 1
  have f2 := c3 2
  go_enter Tryz.func186, Tryz.ntmps186
  go_wp2
  go_ret
  exact ⟨rfl, (h.power 1 _).power 2 _, (Moved.set2 _ _ _).trans (Moved.set2 _ _ _)⟩
set_option maxHeartbeats 1000000 in
theorem start_any (d k : Nat) (u : Value) (w : World) (h : DeskAt w d k u) : Calls Tryz.prog 113 #[.pointer (some ⟨d, 0, none⟩)] w fun e w' => e = .returned (.int .i64 0) ∧ DeskAt w' d k u ∧ Moved d k w w' := by
  obtain ⟨c1, c2, c3, c4⟩ := h.cells
  go_enter Tryz.func113, Tryz.ntmps113
  go_wp2_with fail
  refine (diskStart_any d k u w h).mono ?_
  rintro e w1 ⟨rfl, h1, m1⟩
  obtain ⟨e1, e2, e3, e4⟩ := h1.cells
  go_wp2_with fail
  go_ret
  exact ⟨rfl, h1, m1⟩
theorem diskNew_nil (w : World) : Calls Tryz.prog 34 #[.slice none 0 0] w fun e w' => e = .returned (.tuple #[.pointer (some ⟨w.heap.size, 0, none⟩), .int .i64 0]) ∧ w' = w.alloc (.cells #[.slice none 0 0, .bool false, .int .i64 0, .int .i64 0] 112) := by
  go_enter Tryz.func34, Tryz.ntmps34
  go_wp2
  go_ret2
  exact ⟨rfl, rfl⟩
end Go.Proofs.YtigfogpfcbcdhaaGreatDoor
