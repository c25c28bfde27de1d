/- The walks of the reference's times as texts: clock, Short, Long. -/
import Derived.Test.YtehdbceemdpbaaaDoorTimeW2
namespace Go.Proofs.YtehdbceemdpbaaaDoor
open Go Go.RowKit

theorem refdigits_is (a k : Int) (n j : Nat) (w : World) (ha : a = n) (hk : k = j) (h1 : n ≤ 1000000) (hj : j ≤ 20) :
    Calls Tryd.prog 53 #[.int .u64 a, .int .i64 k] w fun e w' => e = .returned (.string ⟨(Dig.dgs n j).toArray⟩) ∧ Below w.heap.size w w' := by
  subst ha hk
  exact refdigits_any n j w (by omega) hj
set_option maxHeartbeats 1000000 in
set_option maxRecDepth 100000 in
theorem clock_any (t : Int) (y m d s : Nat) (w : World) (h0 : -62167219200 ≤ t) (h1 : t ≤ 253402300799) (h : Hid (Cal.Is ((t + 62167219200) / 86400) y m d)) (hs : Hid ((s : Int) = (t + 62167219200) % 86400)) :
    Calls Tryd.prog 54 #[.int .i64 t] w fun e w' => e = .returned (.string ⟨(Tm.clk m d s).toArray⟩) ∧ Below w.heap.size w w' := by
  have hm0 := h.out.m0
  have hm1 := h.out.m1
  have hd0 := h.out.d0
  have hd1 : (d : Int) ≤ 31 := by have := h.out.d1; have := Cal.dim_lo y m; omega
  have hsr : 0 ≤ (t + 62167219200) % 86400 ∧ (t + 62167219200) % 86400 < 86400 := by omega
  have l1 := Dig.dgs_length_le m 2
  have l2 := Dig.dgs_length_le d 2
  have l3 := Dig.dgs_length_le (s / 3600) 2
  have l4 := Dig.dgs_length_le (s / 60 % 60) 2
  have l5 := Dig.dgs_length_le (s % 60) 2
  have Hfin : Hid ((⟨(Tm.clk m d s).toArray⟩ : ByteArray) = ⟨(Dig.dgs m 2).toArray⟩ ++ ⟨(Dig.dgs d 2).toArray⟩ ++ ⟨(Dig.dgs (s / 3600) 2).toArray⟩ ++ ⟨(Dig.dgs (s / 60 % 60) 2).toArray⟩ ++ ⟨(Dig.dgs (s % 60) 2).toArray⟩) := by
    show _ = _
    simp only [str_add, Tm.clk]
  go_enter Tryd.func54, Tryd.ntmps54
  go_wp2_with fail
  refine (refdate_yes _ _ _ _ _ h0 h1 h.out).mono ?_
  rintro e w' ⟨rfl, rfl⟩
  go_wp2_with fail
  refine (refdigits_is _ _ m 2 _ (by omega) rfl (by omega) (by omega)).mono ?_
  rintro e w1 ⟨rfl, B1⟩
  go_wp2_with fail
  refine (refdigits_is _ _ d 2 _ (by omega) rfl (by omega) (by omega)).mono ?_
  rintro e w2 ⟨rfl, B2⟩
  have C2 := B1.trans (B2.mono B1.size)
  clear B1 B2
  go_wp2_with fail
  refine (refdigits_is _ _ (s / 3600) 2 _ (by have := hs.out; omega) rfl (by have := hs.out; omega) (by omega)).mono ?_
  rintro e w3 ⟨rfl, B3⟩
  have C3 := C2.trans (B3.mono C2.size)
  clear C2 B3
  go_wp2_with fail
  refine (refdigits_is _ _ (s / 60 % 60) 2 _ (by have := hs.out; omega) rfl (by have := hs.out; omega) (by omega)).mono ?_
  rintro e w4 ⟨rfl, B4⟩
  have C4 := C3.trans (B4.mono C3.size)
  clear C3 B4
  go_wp2_with fail
  refine (refdigits_is _ _ (s % 60) 2 _ (by have := hs.out; omega) rfl (by have := hs.out; omega) (by omega)).mono ?_
  rintro e w5 ⟨rfl, B5⟩
  have C5 := C4.trans (B5.mono C4.size)
  clear C4 B5
  go_wp2_with fail
  go_ret
  exact ⟨by rw [Hfin.out]; rfl, C5⟩
theorem refshort_out (t : Int) (w : World) (h : t < -62167219200 ∨ 253402300799 < t) :
    Calls Tryd.prog 22 #[.int .i64 t] w fun e w' => e = .returned (.tuple #[.string ⟨#[]⟩, .int .i64 21]) ∧ w = w' := by
  have H := Lib.hid h
  clear h
  go_enter Tryd.func22, Tryd.ntmps22
  go_wp2_with fail
  refine (refdate_no t _ H.out).mono ?_
  rintro e w' ⟨rfl, rfl⟩
  go_wp2_with fail
  go_ret2
  exact ⟨rfl, rfl⟩
theorem refshort_no (t : Int) (y m d : Int) (w : World) (h0 : -62167219200 ≤ t) (h1 : t ≤ 253402300799) (h : Hid (Cal.Is ((t + 62167219200) / 86400) y m d)) (hy : y < 1950 ∨ 2049 < y) :
    Calls Tryd.prog 22 #[.int .i64 t] w fun e w' => e = .returned (.tuple #[.string ⟨#[]⟩, .int .i64 21]) ∧ w = w' := by
  rcases hy with hy | hy
  · go_enter Tryd.func22, Tryd.ntmps22
    go_wp2_with fail
    refine (refdate_yes _ _ _ _ _ h0 h1 h.out).mono ?_
    rintro e w' ⟨rfl, rfl⟩
    go_wp2_with fail
    go_ret2
    exact ⟨rfl, rfl⟩
  · have hy' : ¬ y < 1950 := by omega
    go_enter Tryd.func22, Tryd.ntmps22
    go_wp2_with fail
    refine (refdate_yes _ _ _ _ _ h0 h1 h.out).mono ?_
    rintro e w' ⟨rfl, rfl⟩
    go_wp2_with fail
    go_ret2
    exact ⟨rfl, rfl⟩
set_option maxHeartbeats 1000000 in
set_option maxRecDepth 100000 in
theorem refshort_yes (t : Int) (y m d s : Nat) (w : World) (h0 : -62167219200 ≤ t) (h1 : t ≤ 253402300799) (h : Hid (Cal.Is ((t + 62167219200) / 86400) y m d)) (hs : Hid ((s : Int) = (t + 62167219200) % 86400)) (hy0 : 1950 ≤ (y : Int)) (hy1 : (y : Int) ≤ 2049) :
    Calls Tryd.prog 22 #[.int .i64 t] w fun e w' => e = .returned (.tuple #[.string ⟨(Tm.short y m d s).toArray⟩, .int .i64 0]) ∧ Below w.heap.size w w' := by
  have l1 := Dig.dgs_length_le (y % 100) 2
  have l2 := Tm.clk_length_le m d s
  have Hfin : Hid ((⟨(Tm.short y m d s).toArray⟩ : ByteArray) = ⟨(Dig.dgs (y % 100) 2).toArray⟩ ++ ⟨(Tm.clk m d s).toArray⟩ ++ ⟨#[90]⟩) := by
    show _ = _
    rw [str_add (Dig.dgs (y % 100) 2) (Tm.clk m d s), str_Z]; rfl
  go_enter Tryd.func22, Tryd.ntmps22
  go_wp2_with fail
  refine (refdate_yes _ _ _ _ _ h0 h1 h.out).mono ?_
  rintro e w' ⟨rfl, rfl⟩
  go_wp2_with fail
  refine (refdigits_is _ _ (y % 100) 2 _ (by omega) rfl (by omega) (by omega)).mono ?_
  rintro e w1 ⟨rfl, B1⟩
  go_wp2_with fail
  refine (clock_any _ y m d s _ h0 h1 h hs).mono ?_
  rintro e w2 ⟨rfl, B2⟩
  have C2 := B1.trans (B2.mono B1.size)
  clear B1 B2
  go_wp2_with fail
  go_ret2
  exact ⟨by rw [Hfin.out]; rfl, C2⟩
theorem reflong_arg (t micros : Int) (w : World) (h : micros < 0 ∨ 999999 < micros) :
    Calls Tryd.prog 24 #[.int .i64 t, .int .i64 micros] w fun e w' => e = .returned (.tuple #[.string ⟨#[]⟩, .int .i64 1]) ∧ w = w' := by
  rcases h with h | h
  · go_enter Tryd.func24, Tryd.ntmps24
    go_wp2_with fail
    go_ret2
    exact ⟨rfl, rfl⟩
  · have h' : ¬ micros < 0 := by omega
    go_enter Tryd.func24, Tryd.ntmps24
    go_wp2_with fail
    go_ret2
    exact ⟨rfl, rfl⟩
theorem reflong_no (t micros : Int) (w : World) (hm0 : 0 ≤ micros) (hm1 : micros ≤ 999999) (h : t < -62167219200 ∨ 253402300799 < t) :
    Calls Tryd.prog 24 #[.int .i64 t, .int .i64 micros] w fun e w' => e = .returned (.tuple #[.string ⟨#[]⟩, .int .i64 21]) ∧ w = w' := by
  have H := Lib.hid h
  clear h
  go_enter Tryd.func24, Tryd.ntmps24
  go_wp2_with fail
  refine (refdate_no t _ H.out).mono ?_
  rintro e w' ⟨rfl, rfl⟩
  go_wp2_with fail
  go_ret2
  exact ⟨rfl, rfl⟩
end Go.Proofs.YtehdbceemdpbaaaDoor
