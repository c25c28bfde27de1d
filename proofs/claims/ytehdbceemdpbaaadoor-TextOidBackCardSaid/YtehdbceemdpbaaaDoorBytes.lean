/- The walk of the statement about object identifiers' texts. -/
import Derived.Test.YtehdbceemdpbaaaDoorOidTR
import Derived.Test.YtehdbceemdpbaaaDoorOids
namespace Go.Proofs.YtehdbceemdpbaaaDoor
open Go Go.RowKit

theorem txtVal_ex (o : Option (List UInt8)) : ∃ (x : ByteArray) (e : Int), txtVal o = .tuple #[.string x, .int .i64 e] := by
  cases o with
  | none => exact ⟨_, _, rfl⟩
  | some t => exact ⟨_, _, rfl⟩
/-- '[]byte{}'. -/
theorem own_zero (w : World) : (w.alloc (.cells #[] 5)).ownsRow w.heap.size 5 1 (.slice (some ⟨w.heap.size, 0, none⟩) 0 0) (List.length ([] : List UInt8)) (Lib.byteCells []) :=
  ⟨rfl, .inr ⟨w.heap.size, 0, #[], rfl, Nat.le_refl _, heap_alloc_new w _, Nat.le_refl _, Nat.zero_le _, rfl, rfl⟩⟩
set_option maxRecDepth 100000 in
set_option maxHeartbeats 2000000 in
theorem textBytes_walk (A : Option Addr) (c : Nat) (b : List UInt8) (w : World) (hr : Reads w w.heap.size 1 A b.length (Lib.byteCells b)) (hn : b.length ≤ 9223372036854775807) (hT : Lib.Utf8Tabs 0 1 w) :
    Calls Tryd.prog 10 #[.slice A b.length c] w fun e w' => e = .returned (.bool true) ∧ Below w.heap.size w w' := by
  have HT := Lib.hid hT
  have HR := Lib.hid hr
  clear hT hr
  by_cases hl : 500 < b.length
  · go_enter Tryd.func10, Tryd.ntmps10
    go_wp2_with fail
    refine (known_any _ HT.out).mono ?_
    rintro _ w7 ⟨rfl, hb⟩
    go_wp2_with fail
    go_ret
    exact ⟨rfl, hb⟩
  · obtain ⟨i0, hi0, hz0, hz1, hz2⟩ := info_parts info_u8
    go_enter Tryd.func10, Tryd.ntmps10
    have HR1 : Hid (Reads (w.alloc (.cells #[] 5)) w.heap.size 1 A b.length (Lib.byteCells b)) := HR.out.alloc (Nat.le_refl _) _
    go_wp2_with (refine wpList_cat rfl (.tmp 12) (.tmp 13) 25 rfl w.heap.size i0 Tryd.underlying25 hi0 hz0 hz1 hz2 (.slice (some ⟨w.heap.size, 0, none⟩) 0 0) [] rfl (own_zero w) (.slice A b.length c) b rfl ⟨_, A, c, rfl, HR1.out⟩ (by simp; omega) (by simp) ?_; intro v6 w6 A6)
    rw [List.nil_append] at A6
    have Hb6 : Hid (Below w.heap.size w w6) := ((Below.refl _ w).alloc (Nat.le_refl _) _).trans (A6.below (own_zero w) (by simp))
    obtain ⟨A', c', rfl, hr'⟩ := reads_own A6.own
    have HR' := Lib.hid hr'
    obtain ⟨x, e, hx⟩ := txtVal_ex (Od.decO b)
    have Hx := Lib.hid hx
    clear A6 hr' HR1 hx
    refine (oidText_any A' c' b _ HR'.out (by omega)).mono ?_
    rintro _ w7 ⟨rfl, hb⟩
    rw [Hx.out]
    have Hb7 := Lib.hid (Hb6.out.trans (hb.mono Hb6.out.size))
    clear hb Hb6
    go_wp2_with fail
    refine (refoidText_any A c b _ ((HR.out.below Hb7.out).more Hb7.out.size) (by omega)).mono ?_
    rintro _ w8 ⟨rfl, hb⟩
    rw [Hx.out]
    have Hb8 := Lib.hid (Hb7.out.trans (hb.mono Hb7.out.size))
    clear hb Hb7
    go_wp2_with fail
    refine (known_any _ (tabs_iter HT.out Hb8.out)).mono ?_
    rintro _ w9 ⟨rfl, hb⟩
    have Hb9 := Lib.hid (Hb8.out.trans (hb.mono Hb8.out.size))
    clear hb Hb8
    go_wp2_with fail
    go_ret
    exact ⟨rfl, Hb9.out⟩
end Go.Proofs.YtehdbceemdpbaaaDoor
