/- The walks of times as texts: written, Short, Long of the program; clock, Short, Long of the reference. -/
import Derived.Test.YtehdbceemdpbaaaDoorCalW
import Derived.Test.YtehdbceemdpbaaaDoorDigW
import Derived.Test.YtehdbceemdpbaaaDoorTime
namespace Go.Proofs.YtehdbceemdpbaaaDoor
open Go Go.RowKit

theorem idx5 (x0 x1 x2 x3 x4 : Value) (W : World) : (Instr.index 88 (.agg #[x0, x1, x2, x3, x4]) (.int .i64 0)).run Tryd.prog W = .ok x0 W ∧ (Instr.index 88 (.agg #[x0, x1, x2, x3, x4]) (.int .i64 1)).run Tryd.prog W = .ok x1 W ∧
    (Instr.index 88 (.agg #[x0, x1, x2, x3, x4]) (.int .i64 2)).run Tryd.prog W = .ok x2 W ∧ (Instr.index 88 (.agg #[x0, x1, x2, x3, x4]) (.int .i64 3)).run Tryd.prog W = .ok x3 W ∧ (Instr.index 88 (.agg #[x0, x1, x2, x3, x4]) (.int .i64 4)).run Tryd.prog W = .ok x4 W :=
  ⟨by kernel_rfl, by kernel_rfl, by kernel_rfl, by kernel_rfl, by kernel_rfl⟩
theorem appB_nil (w : World) (base : Nat) : w.ownsRow base 5 1 (.slice none 0 0) (List.length ([] : List UInt8)) (Lib.byteCells []) := World.ownsRow_nil _ _ _ _
/-- The pieces, one behind the other, as integers. -/
def pieces : List (Int × Int) → List UInt8
  | [] => []
  | (a, k) :: r => Dig.dgs a.toNat k.toNat ++ pieces r
set_option maxHeartbeats 2000000 in
set_option maxRecDepth 100000 in
theorem written_core (t y0 y m d s width : Int) (w : World) (hwd : (width = 2 ∧ y = y0 % 100) ∨ (width = 4 ∧ y = y0)) (h0 : -62167219200 ≤ t) (h1 : t ≤ 253402300799) (h : Hid (Cal.Is ((t + 62167219200) / 86400) y0 m d)) (hs : Hid (s = (t + 62167219200) % 86400)) (hy0 : 0 ≤ y0) (hy1 : y0 ≤ 9999) (hm0 : 0 ≤ m) (hm1 : m ≤ 12) (hd0 : 0 ≤ d) (hd1 : d ≤ 31) :
    Calls Tryd.prog 52 #[.int .i64 t, .int .i64 width] w fun e w' => ∃ v', e = .returned v' ∧ AppB w.heap.size w w' (.slice none 0 0) v' ([] ++ Dig.dgs y.toNat width.toNat ++ Dig.dgs m.toNat 2 ++ Dig.dgs d.toNat 2 ++ Dig.dgs (s / 3600).toNat 2 ++ Dig.dgs (s / 60 % 60).toNat 2 ++ Dig.dgs (s % 60).toNat 2) := by
  have j0 := fun x0 x1 x2 x3 x4 W => (idx5 x0 x1 x2 x3 x4 W).1
  have j1 := fun x0 x1 x2 x3 x4 W => (idx5 x0 x1 x2 x3 x4 W).2.1
  have j2 := fun x0 x1 x2 x3 x4 W => (idx5 x0 x1 x2 x3 x4 W).2.2.1
  have j3 := fun x0 x1 x2 x3 x4 W => (idx5 x0 x1 x2 x3 x4 W).2.2.2.1
  have j4 := fun x0 x1 x2 x3 x4 W => (idx5 x0 x1 x2 x3 x4 W).2.2.2.2
  have L0 := fun n => Dig.dgs_length_le n 2
  have L1 := Dig.dgs_length_le y.toNat width.toNat
  have HL0 := Lib.hid L0
  have HL1 := Lib.hid L1
  clear L0 L1
  have hsr : 0 ≤ (t + 62167219200) % 86400 ∧ (t + 62167219200) % 86400 < 86400 := by omega
  obtain rfl := hs.out
  clear hs
  rcases hwd with ⟨rfl, rfl⟩ | ⟨rfl, rfl⟩
  · go_enter Tryd.func52, Tryd.ntmps52
    go_wp2_with fail
    refine (date_yes _ _ _ _ _ h0 h1 h.out).mono ?_
    rintro e w' ⟨rfl, rfl⟩
    go_wp2_with fail
    refine (digits_int _ _ _ _ w.heap.size _ (appB_nil _ _) (Nat.le_refl _) (by simp) (by omega) (by omega) (by omega) (by omega)).mono ?_
    rintro e w1 ⟨v1, rfl, A1⟩
    have B1 := Lib.hid A1
    have hz1 := A1.grown.size
    clear A1
    go_wp2_with fail
    refine wp_loop_rounds 6 ?_
    rw [rounds_succ]
    go_wp2_with fail
    refine (digits_int _ _ _ _ w.heap.size _ B1.out.own hz1 (by have q0 := HL1.out; simp only [List.length_append, List.length_nil] at *; first | omega | (simp at *; omega)) (by omega) (by omega) (by omega) (by omega)).mono ?_
    rintro e w2 ⟨v2, rfl, A2⟩
    have B2 := Lib.hid (B1.out.trans A2)
    have hz2 := B2.out.grown.size
    clear A2 hz1
    go_wp2_with fail
    rw [rounds_succ]
    go_wp2_with fail
    refine (digits_int _ _ _ _ w.heap.size _ B2.out.own hz2 (by have q0 := HL1.out; have q1 := HL0.out m.toNat; simp only [List.length_append, List.length_nil] at *; first | omega | (simp at *; omega)) (by omega) (by omega) (by omega) (by omega)).mono ?_
    rintro e w3 ⟨v3, rfl, A3⟩
    have B3 := Lib.hid (B2.out.trans A3)
    have hz3 := B3.out.grown.size
    clear A3 hz2
    go_wp2_with fail
    rw [rounds_succ]
    go_wp2_with fail
    refine (digits_int _ _ _ _ w.heap.size _ B3.out.own hz3 (by have q0 := HL1.out; have q1 := HL0.out m.toNat; have q2 := HL0.out d.toNat; simp only [List.length_append, List.length_nil] at *; first | omega | (simp at *; omega)) (by omega) (by omega) (by omega) (by omega)).mono ?_
    rintro e w4 ⟨v4, rfl, A4⟩
    have B4 := Lib.hid (B3.out.trans A4)
    have hz4 := B4.out.grown.size
    clear A4 hz3
    go_wp2_with fail
    rw [rounds_succ]
    go_wp2_with fail
    refine (digits_int _ _ _ _ w.heap.size _ B4.out.own hz4 (by have q0 := HL1.out; have q1 := HL0.out m.toNat; have q2 := HL0.out d.toNat; have q3 := HL0.out ((t + 62167219200) % 86400 / 3600).toNat; simp only [List.length_append, List.length_nil] at *; first | omega | (simp at *; omega)) (by omega) (by omega) (by omega) (by omega)).mono ?_
    rintro e w5 ⟨v5, rfl, A5⟩
    have B5 := Lib.hid (B4.out.trans A5)
    have hz5 := B5.out.grown.size
    clear A5 hz4
    go_wp2_with fail
    rw [rounds_succ]
    go_wp2_with fail
    refine (digits_int _ _ _ _ w.heap.size _ B5.out.own hz5 (by have q0 := HL1.out; have q1 := HL0.out m.toNat; have q2 := HL0.out d.toNat; have q3 := HL0.out ((t + 62167219200) % 86400 / 3600).toNat; have q4 := HL0.out ((t + 62167219200) % 86400 / 60 % 60).toNat; simp only [List.length_append, List.length_nil] at *; first | omega | (simp at *; omega)) (by omega) (by omega) (by omega) (by omega)).mono ?_
    rintro e w6 ⟨v6, rfl, A6⟩
    have B6 := Lib.hid (B5.out.trans A6)
    have hz6 := B6.out.grown.size
    clear A6 hz5
    go_wp2_with fail
    rw [rounds_succ]
    go_wp2_with fail
    go_ret
    rw [show (t + 62167219200) % 86400 % 60 = (t + 62167219200) % 60 by omega]
    exact ⟨v6, rfl, B6.out⟩
  · go_enter Tryd.func52, Tryd.ntmps52
    go_wp2_with fail
    refine (date_yes _ _ _ _ _ h0 h1 h.out).mono ?_
    rintro e w' ⟨rfl, rfl⟩
    go_wp2_with fail
    refine (digits_int _ _ _ _ w.heap.size _ (appB_nil _ _) (Nat.le_refl _) (by simp) (by omega) (by omega) (by omega) (by omega)).mono ?_
    rintro e w1 ⟨v1, rfl, A1⟩
    have B1 := Lib.hid A1
    have hz1 := A1.grown.size
    clear A1
    go_wp2_with fail
    refine wp_loop_rounds 6 ?_
    rw [rounds_succ]
    go_wp2_with fail
    refine (digits_int _ _ _ _ w.heap.size _ B1.out.own hz1 (by have q0 := HL1.out; simp only [List.length_append, List.length_nil] at *; first | omega | (simp at *; omega)) (by omega) (by omega) (by omega) (by omega)).mono ?_
    rintro e w2 ⟨v2, rfl, A2⟩
    have B2 := Lib.hid (B1.out.trans A2)
    have hz2 := B2.out.grown.size
    clear A2 hz1
    go_wp2_with fail
    rw [rounds_succ]
    go_wp2_with fail
    refine (digits_int _ _ _ _ w.heap.size _ B2.out.own hz2 (by have q0 := HL1.out; have q1 := HL0.out m.toNat; simp only [List.length_append, List.length_nil] at *; first | omega | (simp at *; omega)) (by omega) (by omega) (by omega) (by omega)).mono ?_
    rintro e w3 ⟨v3, rfl, A3⟩
    have B3 := Lib.hid (B2.out.trans A3)
    have hz3 := B3.out.grown.size
    clear A3 hz2
    go_wp2_with fail
    rw [rounds_succ]
    go_wp2_with fail
    refine (digits_int _ _ _ _ w.heap.size _ B3.out.own hz3 (by have q0 := HL1.out; have q1 := HL0.out m.toNat; have q2 := HL0.out d.toNat; simp only [List.length_append, List.length_nil] at *; first | omega | (simp at *; omega)) (by omega) (by omega) (by omega) (by omega)).mono ?_
    rintro e w4 ⟨v4, rfl, A4⟩
    have B4 := Lib.hid (B3.out.trans A4)
    have hz4 := B4.out.grown.size
    clear A4 hz3
    go_wp2_with fail
    rw [rounds_succ]
    go_wp2_with fail
    refine (digits_int _ _ _ _ w.heap.size _ B4.out.own hz4 (by have q0 := HL1.out; have q1 := HL0.out m.toNat; have q2 := HL0.out d.toNat; have q3 := HL0.out ((t + 62167219200) % 86400 / 3600).toNat; simp only [List.length_append, List.length_nil] at *; first | omega | (simp at *; omega)) (by omega) (by omega) (by omega) (by omega)).mono ?_
    rintro e w5 ⟨v5, rfl, A5⟩
    have B5 := Lib.hid (B4.out.trans A5)
    have hz5 := B5.out.grown.size
    clear A5 hz4
    go_wp2_with fail
    rw [rounds_succ]
    go_wp2_with fail
    refine (digits_int _ _ _ _ w.heap.size _ B5.out.own hz5 (by have q0 := HL1.out; have q1 := HL0.out m.toNat; have q2 := HL0.out d.toNat; have q3 := HL0.out ((t + 62167219200) % 86400 / 3600).toNat; have q4 := HL0.out ((t + 62167219200) % 86400 / 60 % 60).toNat; simp only [List.length_append, List.length_nil] at *; first | omega | (simp at *; omega)) (by omega) (by omega) (by omega) (by omega)).mono ?_
    rintro e w6 ⟨v6, rfl, A6⟩
    have B6 := Lib.hid (B5.out.trans A6)
    have hz6 := B6.out.grown.size
    clear A6 hz5
    go_wp2_with fail
    rw [rounds_succ]
    go_wp2_with fail
    go_ret
    rw [show (t + 62167219200) % 86400 % 60 = (t + 62167219200) % 60 by omega]
    exact ⟨v6, rfl, B6.out⟩
/-- The program's text of a time: of its date and its second of the day. -/
theorem written_any (t : Int) (y m d s width : Nat) (w : World) (h0 : -62167219200 ≤ t) (h1 : t ≤ 253402300799) (h : Cal.Is ((t + 62167219200) / 86400) y m d) (hs : (s : Int) = (t + 62167219200) % 86400) (hwd : width = 2 ∨ width = 4) :
    Calls Tryd.prog 52 #[.int .i64 t, .int .i64 (width : Int)] w fun e w' => ∃ v', e = .returned v' ∧ AppB w.heap.size w w' (.slice none 0 0) v' (Tm.txt y m d s width) := by
  have hd1 : (d : Int) ≤ 31 := by have := h.d1; have := Cal.dim_lo y m; omega
  have := h.y0; have := h.y1; have := h.m0; have := h.m1; have := h.d0
  have key := written_core t y (Tm.yr y width) m d s width w (by
    rcases hwd with rfl | rfl
    · left; simp [Tm.yr]
    · right; simp [Tm.yr]) h0 h1 h hs (by omega) (by omega) (by omega) (by omega) (by omega) hd1
  have e1 : ((s : Int) / 3600).toNat = s / 3600 := by omega
  have e2 : ((s : Int) / 60 % 60).toNat = s / 60 % 60 := by omega
  have e3 : ((s : Int) % 60).toNat = s % 60 := by omega
  have e : ([] : List UInt8) ++ Dig.dgs ((Tm.yr y width : Nat) : Int).toNat ((width : Nat) : Int).toNat ++ Dig.dgs ((m : Nat) : Int).toNat 2 ++ Dig.dgs ((d : Nat) : Int).toNat 2 ++ Dig.dgs ((s : Int) / 3600).toNat 2 ++ Dig.dgs ((s : Int) / 60 % 60).toNat 2 ++ Dig.dgs ((s : Int) % 60).toNat 2 = Tm.txt y m d s width := by
    rw [e1, e2, e3]
    simp only [Int.toNat_natCast, Tm.txt, Tm.clk, List.nil_append, List.append_assoc]
  rw [e] at key
  exact key
end Go.Proofs.YtehdbceemdpbaaaDoor
