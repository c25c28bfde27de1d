/- The walks of the desk's play, at the lines of the fixed scripts. -/
import Derived.Test.YtigfogpfcbcdhaaGreatDoorDeskW
import Derived.Test.YtigfogpfcbcdhaaGreatDoorDeskH
import Derived.Test.YtigfogpfcbcdhaaGreatDoorDeskQ
import Derived.Deep.RegionLaw
set_option linter.unusedVariables false
set_option linter.unusedSimpArgs false
namespace Go.Proofs.YtigfogpfcbcdhaaGreatDoor
open Go Go.RowKit
set_option maxHeartbeats 2000000 in
set_option maxRecDepth 100000 in
theorem others_start (d k : Nat) (u vn vb : Value) (w : World) (h : DeskAt w d k u) (h1 : vn.oneCell' = true) (h2 : vb.oneCell' = true) :
    Calls Tryz.prog 61 #[.pointer (some ⟨d, 0, none⟩), .agg #[.string ⟨#[115, 116, 97, 114, 116]⟩, vn, vb]] w fun e w' => e = .returned (.string ⟨#[111, 107]⟩) ∧ DeskAt w' d k u ∧ Moved d k w w' := by
  go_enter Tryz.func61, Tryz.ntmps61
  go_wp2_with fail
  refine (start_any d k u _ (h.below ((Below.refl _ w).alloc (Nat.le_refl _) _))).mono ?_
  rintro e w1 ⟨rfl, d1, m1⟩
  go_wp2_with fail
  refine (told_ok _).mono ?_
  rintro e w1 ⟨rfl, rfl⟩
  go_wp2_with fail
  go_ret
  exact ⟨rfl, d1, (Moved.of_below ((Below.refl _ w).alloc (Nat.le_refl _) _)).trans m1⟩
set_option maxHeartbeats 4000000 in
set_option maxRecDepth 100000 in
theorem others_cut (d k : Nat) (u vn vb : Value) (B : Nat) (w : World) (h : DeskAt w d k u) (h1 : w.ownsRow B 2 1 vn 1 [.int .i64 (-1)]) (h2 : vb.oneCell' = true) (he : Env w) :
    Calls Tryz.prog 61 #[.pointer (some ⟨d, 0, none⟩), .agg #[.string ⟨#[99, 117, 116]⟩, vn, vb]] w fun e w' => e = .returned (.string ⟨(toldL 1).toArray⟩) ∧ DeskAt w' d k u ∧ Moved d k w w' := by
  obtain ⟨g, cap, rfl⟩ := own_succ h1
  have H := Lib.hid h
  have HE := Lib.hid he
  obtain ⟨c1, c2, c3, c4⟩ := h.cells
  have n1 : w.cell? ⟨g, 0, none⟩ = some (.int .i64 (-1)) := by rw [h1.cellAt 0 (by omega)]; rfl
  have hdl := h.ltd
  have hgl := World.block_lt_of_cell? w _ n1
  go_enter Tryz.func61, Tryz.ntmps61
  clear h h1 he
  go_wp2_with fail
  go_region_law (first | (go_simp; go_at_call 112; refine (cut_neg _).mono ?_; rintro e wq ⟨rfl, rfl⟩) | (go_simp; go_at_call 111; refine (diskCut_neg k _).mono ?_; rintro e wq ⟨rfl, rfl⟩) | (go_simp; go_at_call 36; refine (told_any 1 _ (by omega) (by omega) (HE.out.stays ((Below.refl _ w).alloc (Nat.le_refl _) _).drew)).mono ?_; rintro e w9 ⟨rfl, hb9⟩))
  all_goals
    go_wp2_with fail
    go_ret
    have hbb : Below w.heap.size w w9 := ((Below.refl _ w).alloc (Nat.le_refl _) _).drew.trans (hb9.mono (by simp))
    exact ⟨rfl, H.out.below hbb, Moved.of_below hbb⟩
set_option maxHeartbeats 4000000 in
set_option maxRecDepth 100000 in
theorem play_start (d k : Nat) (u vn vb : Value) (w : World) (h : DeskAt w d k u) (h1 : vn.oneCell' = true) (h2 : vb.oneCell' = true) :
    Calls Tryz.prog 37 #[.pointer (some ⟨d, 0, none⟩), .agg #[.string ⟨#[115, 116, 97, 114, 116]⟩, vn, vb]] w fun e w' => e = .returned (.string ⟨#[111, 107]⟩) ∧ DeskAt w' d k u ∧ Moved d k w w' := by
  have hw := (Below.refl _ w).alloc (Nat.le_refl _) (.cells #[.string ⟨#[115, 116, 97, 114, 116]⟩, vn, vb] 26)
  go_enter Tryz.func37, Tryz.ntmps37
  go_wp2_with fail
  refine (others_start d k u vn vb _ (h.below hw) h1 h2).mono ?_
  rintro e w1 ⟨rfl, d1, m1⟩
  go_wp2_with fail
  go_ret
  exact ⟨rfl, d1, (Moved.of_below hw).trans m1⟩
set_option maxHeartbeats 4000000 in
set_option maxRecDepth 100000 in
theorem play_cut (d k : Nat) (u vn vb : Value) (B : Nat) (w : World) (h : DeskAt w d k u) (h1 : w.ownsRow B 2 1 vn 1 [.int .i64 (-1)]) (h2 : vb.oneCell' = true) (he : Env w) :
    Calls Tryz.prog 37 #[.pointer (some ⟨d, 0, none⟩), .agg #[.string ⟨#[99, 117, 116]⟩, vn, vb]] w fun e w' => e = .returned (.string ⟨(toldL 1).toArray⟩) ∧ DeskAt w' d k u ∧ Moved d k w w' := by
  have hw := (Below.refl _ w).alloc (Nat.le_refl _) (.cells #[.string ⟨#[99, 117, 116]⟩, vn, vb] 26)
  obtain ⟨g, cap, rfl⟩ := own_succ h1
  go_enter Tryz.func37, Tryz.ntmps37
  go_wp2_with fail
  refine (others_cut d k u _ vb B _ (h.below hw) (own_below h1 hw) h2 (he.stays hw)).mono ?_
  rintro e w1 ⟨rfl, d1, m1⟩
  go_wp2_with fail
  go_ret
  exact ⟨rfl, d1, (Moved.of_below hw).trans m1⟩
set_option maxHeartbeats 4000000 in
set_option maxRecDepth 100000 in
theorem play_ask (d k : Nat) (u vn vb : Value) (w : World) (h : DeskAt w d k u) (h1 : vn.oneCell' = true) (h2 : vb.oneCell' = true) (he : Env w) :
    Calls Tryz.prog 37 #[.pointer (some ⟨d, 0, none⟩), .agg #[.string ⟨#[97, 115, 107]⟩, vn, vb]] w fun e w' => e = .returned (.string ⟨(toldL 3).toArray⟩) ∧ DeskAt w' d k u ∧ Moved d k w w' := by
  have hw := (Below.refl _ w).alloc (Nat.le_refl _) (.cells #[.string ⟨#[97, 115, 107]⟩, vn, vb] 26)
  obtain ⟨c1, c2, c3, c4⟩ := (h.below hw).cells
  go_enter Tryz.func37, Tryz.ntmps37
  go_wp2_with fail
  refine (told_any 3 _ (by omega) (by omega) (he.stays hw)).mono ?_
  rintro e w1 ⟨rfl, hb⟩
  go_wp2_with fail
  go_ret
  exact ⟨rfl, (h.below hw).below hb, Moved.of_below (hw.trans (hb.mono (by simp)))⟩
set_option maxHeartbeats 4000000 in
set_option maxRecDepth 100000 in
theorem play_show (d k : Nat) (A : Option Addr) (c : Nat) (b : List UInt8) (vn vb : Value) (B : Nat) (w : World) (h : DeskAt w d k (.slice A b.length c)) (hb : w.ownsRow B 5 1 (.slice A b.length c) b.length (Lib.byteCells b)) (hl : b.length ≤ 1000000)
    (h1 : w.ownsRow B 2 1 vn 1 [.int .i64 3]) (h2 : vb.oneCell' = true) :
    Calls Tryz.prog 37 #[.pointer (some ⟨d, 0, none⟩), .agg #[.string ⟨#[115, 104, 111, 119]⟩, vn, vb]] w fun e w' => e = .returned (.string ⟨(Dk.hexT b).toArray⟩) ∧ DeskAt w' d k (.slice A b.length c) ∧ Moved d k w w' := by
  have hw := (Below.refl _ w).alloc (Nat.le_refl _) (.cells #[.string ⟨#[115, 104, 111, 119]⟩, vn, vb] 26)
  obtain ⟨g, cap, rfl⟩ := own_succ h1
  have H := Lib.hid (h.below hw.drew)
  have HB := Lib.hid (own_below hb hw.drew)
  obtain ⟨c1, c2, c3, c4⟩ := h.cells
  have n1 : w.cell? ⟨g, 0, none⟩ = some (.int .i64 3) := by rw [h1.cellAt 0 (by omega)]; rfl
  have hdl := h.ltd
  have hgl := World.block_lt_of_cell? w _ n1
  have Hw := Lib.hid hw
  clear h hb h1 hw
  go_enter Tryz.func37, Tryz.ntmps37
  go_wp2_with fail
  go_region_law (go_simp; go_at_call 27; refine (hex_any A c b _ (by obtain ⟨A', c', e', hr⟩ := reads_own HB.out; injection e' with e1 e2 e3; subst e1; exact hr) hl).mono ?_; rintro e w9 ⟨rfl, hb9⟩)
  all_goals
    go_wp2_with fail
    go_ret
    have hbb : Below w.heap.size w w9 := Hw.out.drew.trans (hb9.mono (by simp))
    exact ⟨rfl, H.out.below (by exact hb9), Moved.of_below hbb⟩
set_option maxHeartbeats 4000000 in
set_option maxRecDepth 100000 in
theorem play_put (d k : Nat) (u0 : Value) (A : Option Addr) (n c : Nat) (vn vb : Value) (B : Nat) (w : World) (h : DeskAt w d k u0)
    (h1 : w.ownsRow B 2 1 vn 1 [.int .i64 3]) (h2 : w.ownsRow B 52 1 vb 1 [.slice A n c]) :
    Calls Tryz.prog 37 #[.pointer (some ⟨d, 0, none⟩), .agg #[.string ⟨#[112, 117, 116]⟩, vn, vb]] w fun e w' => e = .returned (.string ⟨#[111, 107]⟩) ∧ DeskAt w' d k (.slice A n c) ∧ Moved d k w w' := by
  obtain ⟨g, cap, rfl⟩ := own_succ h1
  obtain ⟨g2, cap2, rfl⟩ := own_succ h2
  have hw := (Below.refl _ w).alloc (Nat.le_refl _) (.cells #[.string ⟨#[112, 117, 116]⟩, .slice (some ⟨g, 0, none⟩) 1 cap, .slice (some ⟨g2, 0, none⟩) 1 cap2] 26)
  have H := Lib.hid (h.below hw.drew)
  have n1 : w.cell? ⟨g, 0, none⟩ = some (.int .i64 3) := by rw [h1.cellAt 0 (by omega)]; rfl
  have n2 : w.cell? ⟨g2, 0, none⟩ = some (.slice A n c) := by rw [h2.cellAt 0 (by omega)]; rfl
  have hgl := World.block_lt_of_cell? w _ n1
  have hgl2 := World.block_lt_of_cell? w _ n2
  have Hw := Lib.hid hw
  clear h h1 h2 hw
  go_enter Tryz.func37, Tryz.ntmps37
  go_wp2_with fail
  go_region_law (go_simp; go_at_call 53; refine (into_ok d k u0 A n c _ (by exact H.out)).mono ?_; rintro e w9 ⟨rfl, rfl⟩)
  all_goals
    go_wp2_with fail
    go_ret
    exact ⟨rfl, H.out.slot _, (Moved.of_below Hw.out.drew).trans (Moved.set1 _ _ _)⟩
end Go.Proofs.YtigfogpfcbcdhaaGreatDoor
