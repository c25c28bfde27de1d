/- The walks of ParseShort and ParseLong of the reference. -/
import Derived.Test.YtehdbceemdpbaaaDoorAtR
namespace Go.Proofs.YtehdbceemdpbaaaDoor
open Go Go.RowKit

theorem of_is (y z : Int) (o : Option Int) (s : ByteArray) (w : World) (hs : s.size = 10) (hyl : -10 ≤ y) (hy1 : y ≤ 9999) (e : y = z) (ho : Hid (o = Pr.momO z s.data.toList 0)) :
    Calls Tryd.prog 63 #[.int .i64 y, .string s] w fun e w' => e = .returned (optVal o) ∧ ∃ n, w' = w.drewN n := by
  subst e; exact of_any y s o w hs hyl hy1 ho
theorem of_none (y z : Int) (s : ByteArray) (w : World) (hs : s.size = 10) (hyl : -10 ≤ y) (hy1 : y ≤ 9999) (e : y = z) (ho : Hid (none = Pr.momO z s.data.toList 0)) :
    Calls Tryd.prog 63 #[.int .i64 y, .string s] w fun e w' => e = .returned (.tuple #[.int .i64 0, .bool false]) ∧ ∃ n, w' = w.drewN n := of_is y z none s w hs hyl hy1 e ho
theorem of_some (y z t : Int) (s : ByteArray) (w : World) (hs : s.size = 10) (hyl : -10 ≤ y) (hy1 : y ≤ 9999) (e : y = z) (ho : Hid (some t = Pr.momO z s.data.toList 0)) :
    Calls Tryd.prog 63 #[.int .i64 y, .string s] w fun e w' => e = .returned (.tuple #[.int .i64 t, .bool true]) ∧ ∃ n, w' = w.drewN n := of_is y z (some t) s w hs hyl hy1 e ho
set_option maxHeartbeats 2000000 in
set_option maxRecDepth 100000 in
theorem refparseShort_any (s : ByteArray) (w : World) (hs : s.size ≤ 1000000) :
    Calls Tryd.prog 39 #[.string s] w fun e w' => e = .returned (shortVal (Pr.shortO s.data.toList)) ∧ ∃ n, w' = w.drewN n := by
  have hsz : s.size = s.data.toList.length := Lib.size_eq s
  have hb := PlainAid.get_bt s
  have hl12 := lb_bt s 12
  by_cases h13 : s.size = 13
  · by_cases hz : PlainAid.bt s 12 = 90
    · have htw := Pr.tw_range s.data.toList 0
      obtain ⟨x, hx⟩ : ∃ x, x = Pr.tw s.data.toList 0 := ⟨_, rfl⟩
      have Hm : Hid (∀ y, Pr.momO y (s.extract 2 12).data.toList 0 = Pr.momO y s.data.toList 2) := fun y => mom_ext y s 2
      have he : (s.extract 2 12).size = 10 := by simp; omega
      have hsl : s.size ≤ 13 := by omega
      have hsg : 13 ≤ s.size := by omega
      rw [← hx] at htw
      have Hx := Lib.hid hx
      have He := Lib.hid he
      by_cases h0 : x < 0
      · have Hf := Lib.hid (short_none (l := s.data.toList) (by rw [← hx]; omega))
        clear hx hsz hl12 he
        go_enter Tryd.func39, Tryd.ntmps39
        go_wp2_with fail
        refine (part_q s 0 2 x _ rfl (by omega) Hx).mono ?_
        rintro _ w1 ⟨rfl, rfl⟩
        go_wp2_with fail
        go_ret2
        exact ⟨by rw [Hf.out]; rfl, 0, rfl⟩
      · have Ho : Hid (Pr.shortO s.data.toList = Pr.momO (if x < 50 then 2000 + x else 1900 + x) s.data.toList 2) := by
          show _ = _; unfold Pr.shortO; rw [if_pos ⟨by omega, by omega, by omega⟩, ← hx]
        obtain ⟨o, ho⟩ : ∃ o, o = Pr.momO (if x < 50 then 2000 + x else 1900 + x) s.data.toList 2 := ⟨_, rfl⟩
        have Ho1 : Hid (o = Pr.momO (if x < 50 then 2000 + x else 1900 + x) (s.extract 2 12).data.toList 0) := by show _ = _; rw [Hm.out]; exact ho
        have Ho2 : Hid (shortVal (Pr.shortO s.data.toList) = shortVal o) := by show _ = _; rw [Ho.out, ← ho]
        clear hx hsz hl12 he ho Ho
        by_cases h50 : x < 50
        all_goals
          go_enter Tryd.func39, Tryd.ntmps39
          go_wp2_with fail
          refine (part_q s 0 2 x _ rfl (by omega) Hx).mono ?_
          rintro _ w1 ⟨rfl, rfl⟩
          go_wp2_with fail
          refine (part_q s 0 2 x _ rfl (by omega) Hx).mono ?_
          rintro _ w1 ⟨rfl, rfl⟩
          go_wp2_with fail
          refine (of_is _ (if x < 50 then 2000 + x else 1900 + x) o _ _ He.out (by omega) (by omega) (by split <;> omega) Ho1).mono ?_
          rintro _ w2 ⟨rfl, hq⟩
          have Hq2 := Lib.hid hq
          clear hq
          cases o with
          | none =>
            unfold optVal
            go_wp2_with fail
            go_ret2
            exact ⟨by rw [Ho2.out]; rfl, Hq2.out⟩
          | some t =>
            unfold optVal
            go_wp2_with fail
            go_ret2
            exact ⟨by rw [Ho2.out]; rfl, Hq2.out⟩
    · have Hf := Lib.hid (short_none (l := s.data.toList) (by omega))
      have hz1 : (PlainAid.bt s 12 == 90) = false := by simpa using hz
      have hz2 : (PlainAid.bt s 12 != 90) = true := by simpa using hz
      have hsl : s.size ≤ 13 := by omega
      have hsg : 13 ≤ s.size := by omega
      clear hz hl12 hsz h13
      go_enter Tryd.func39, Tryd.ntmps39
      go_wp2_with fail
      go_ret2
      exact ⟨by rw [Hf.out]; rfl, 0, rfl⟩
  · have Hf := Lib.hid (short_none (l := s.data.toList) (by omega))
    have hz1 : ((s.size : Int) == 13) = false := by simp; omega
    have hz2 : ((s.size : Int) != 13) = true := by simp; omega
    clear hb hl12 hsz h13
    go_enter Tryd.func39, Tryd.ntmps39
    go_wp2_with fail
    go_ret2
    exact ⟨by rw [Hf.out]; rfl, 0, rfl⟩
end Go.Proofs.YtehdbceemdpbaaaDoor
