/- The walks of At and of, of the reference: the time of a date and a clock. -/
import Derived.Test.YtehdbceemdpbaaaDoorParsP
namespace Go.Proofs.YtehdbceemdpbaaaDoor
open Go Go.RowKit

set_option maxHeartbeats 4000000 in
set_option maxRecDepth 100000 in
theorem at_any (y m d h i q : Int) (w : World) (hy1 : y ≤ 9999) (hyl : -10 ≤ y) (m0 : -1 ≤ m) (m1 : m ≤ 99) (d0 : -1 ≤ d) (d1 : d ≤ 99) (h0 : -1 ≤ h) (h1 : h ≤ 99) (i0 : -1 ≤ i) (i1 : i ≤ 99) (q0 : -1 ≤ q) (q1 : q ≤ 99) :
    Calls Tryd.prog 70 #[.int .i64 y, .int .i64 m, .int .i64 d, .int .i64 h, .int .i64 i, .int .i64 q] w fun e w' => e = .returned (optVal (Pr.atO y m d h i q)) ∧ w = w' := by
  have HO : Hid (Pr.atO y m d h i q = if Pr.AtOk y m d h i q then some (Pr.atT y m d h i q) else none) := rfl
  by_cases c0 : y < 0
  · have Hn : Hid (Pr.atO y m d h i q = none) := by
      show _ = _
      rw [HO.out, if_neg]
      rintro ⟨k0, k1, k2, k3, k4, k5, k6, k7, k8, k9, k10, k11⟩
      omega
    go_enter Tryd.func70, Tryd.ntmps70
    go_wp2_with fail
    refine (between_no _ _ _ _ (by omega)).mono ?_
    rintro _ wz ⟨rfl, rfl⟩
    go_wp2_with fail
    go_ret2
    exact ⟨by rw [Hn.out]; rfl, rfl⟩
  by_cases c1 : m < 1 ∨ 12 < m
  · have Hn : Hid (Pr.atO y m d h i q = none) := by
      show _ = _
      rw [HO.out, if_neg]
      rintro ⟨k0, k1, k2, k3, k4, k5, k6, k7, k8, k9, k10, k11⟩
      omega
    go_enter Tryd.func70, Tryd.ntmps70
    go_wp2_with fail
    refine (between_yes _ _ _ _ (by omega)).mono ?_
    rintro _ wz ⟨rfl, rfl⟩
    go_wp2_with fail
    refine (between_no _ _ _ _ (by omega)).mono ?_
    rintro _ wz ⟨rfl, rfl⟩
    go_wp2_with fail
    go_ret2
    exact ⟨by rw [Hn.out]; rfl, rfl⟩
  have c1a : ¬ m < 1 := fun h => c1 (.inl h)
  have c1b : ¬ 12 < m := fun h => c1 (.inr h)
  clear c1
  by_cases c2 : d < 1
  · have Hn : Hid (Pr.atO y m d h i q = none) := by
      show _ = _
      rw [HO.out, if_neg]
      rintro ⟨k0, k1, k2, k3, k4, k5, k6, k7, k8, k9, k10, k11⟩
      omega
    go_enter Tryd.func70, Tryd.ntmps70
    go_wp2_with fail
    refine (between_yes _ _ _ _ (by omega)).mono ?_
    rintro _ wz ⟨rfl, rfl⟩
    go_wp2_with fail
    refine (between_yes _ _ _ _ (by omega)).mono ?_
    rintro _ wz ⟨rfl, rfl⟩
    go_wp2_with fail
    go_ret2
    exact ⟨by rw [Hn.out]; rfl, rfl⟩
  obtain ⟨dm, hdm⟩ : ∃ dm, dm = Cal.dim y m := ⟨_, rfl⟩
  have hdl := Cal.dim_lo y m
  rw [← hdm] at hdl
  have Hdm := Lib.hid hdm
  obtain ⟨hdl0, hdl1⟩ := hdl
  clear hdm
  by_cases c3 : dm < d
  · have Hn : Hid (Pr.atO y m d h i q = none) := by
      show _ = _
      rw [HO.out, if_neg]
      rintro ⟨k0, k1, k2, k3, k4, k5, k6, k7, k8, k9, k10, k11⟩
      have := Hdm.out
      omega
    go_enter Tryd.func70, Tryd.ntmps70
    go_wp2_with fail
    refine (between_yes _ _ _ _ (by omega)).mono ?_
    rintro _ wz ⟨rfl, rfl⟩
    go_wp2_with fail
    refine (between_yes _ _ _ _ (by omega)).mono ?_
    rintro _ wz ⟨rfl, rfl⟩
    go_wp2_with fail
    refine (days_month y m _ (by omega) (by omega) (by omega)).mono ?_
    rintro _ wz ⟨rfl, rfl⟩
    rw [← Hdm.out]
    go_wp2_with fail
    go_ret2
    exact ⟨by rw [Hn.out]; rfl, rfl⟩
  by_cases c4 : h < 0 ∨ 23 < h
  · have Hn : Hid (Pr.atO y m d h i q = none) := by
      show _ = _
      rw [HO.out, if_neg]
      rintro ⟨k0, k1, k2, k3, k4, k5, k6, k7, k8, k9, k10, k11⟩
      have := Hdm.out
      omega
    go_enter Tryd.func70, Tryd.ntmps70
    go_wp2_with fail
    refine (between_yes _ _ _ _ (by omega)).mono ?_
    rintro _ wz ⟨rfl, rfl⟩
    go_wp2_with fail
    refine (between_yes _ _ _ _ (by omega)).mono ?_
    rintro _ wz ⟨rfl, rfl⟩
    go_wp2_with fail
    refine (days_month y m _ (by omega) (by omega) (by omega)).mono ?_
    rintro _ wz ⟨rfl, rfl⟩
    rw [← Hdm.out]
    go_wp2_with fail
    refine (between_no _ _ _ _ (by omega)).mono ?_
    rintro _ wz ⟨rfl, rfl⟩
    go_wp2_with fail
    go_ret2
    exact ⟨by rw [Hn.out]; rfl, rfl⟩
  have c4a : ¬ h < 0 := fun h => c4 (.inl h)
  have c4b : ¬ 23 < h := fun h => c4 (.inr h)
  clear c4
  by_cases c5 : i < 0 ∨ 59 < i
  · have Hn : Hid (Pr.atO y m d h i q = none) := by
      show _ = _
      rw [HO.out, if_neg]
      rintro ⟨k0, k1, k2, k3, k4, k5, k6, k7, k8, k9, k10, k11⟩
      have := Hdm.out
      omega
    go_enter Tryd.func70, Tryd.ntmps70
    go_wp2_with fail
    refine (between_yes _ _ _ _ (by omega)).mono ?_
    rintro _ wz ⟨rfl, rfl⟩
    go_wp2_with fail
    refine (between_yes _ _ _ _ (by omega)).mono ?_
    rintro _ wz ⟨rfl, rfl⟩
    go_wp2_with fail
    refine (days_month y m _ (by omega) (by omega) (by omega)).mono ?_
    rintro _ wz ⟨rfl, rfl⟩
    rw [← Hdm.out]
    go_wp2_with fail
    refine (between_yes _ _ _ _ (by omega)).mono ?_
    rintro _ wz ⟨rfl, rfl⟩
    go_wp2_with fail
    refine (between_no _ _ _ _ (by omega)).mono ?_
    rintro _ wz ⟨rfl, rfl⟩
    go_wp2_with fail
    go_ret2
    exact ⟨by rw [Hn.out]; rfl, rfl⟩
  have c5a : ¬ i < 0 := fun h => c5 (.inl h)
  have c5b : ¬ 59 < i := fun h => c5 (.inr h)
  clear c5
  by_cases c6 : q < 0 ∨ 59 < q
  · have Hn : Hid (Pr.atO y m d h i q = none) := by
      show _ = _
      rw [HO.out, if_neg]
      rintro ⟨k0, k1, k2, k3, k4, k5, k6, k7, k8, k9, k10, k11⟩
      have := Hdm.out
      omega
    go_enter Tryd.func70, Tryd.ntmps70
    go_wp2_with fail
    refine (between_yes _ _ _ _ (by omega)).mono ?_
    rintro _ wz ⟨rfl, rfl⟩
    go_wp2_with fail
    refine (between_yes _ _ _ _ (by omega)).mono ?_
    rintro _ wz ⟨rfl, rfl⟩
    go_wp2_with fail
    refine (days_month y m _ (by omega) (by omega) (by omega)).mono ?_
    rintro _ wz ⟨rfl, rfl⟩
    rw [← Hdm.out]
    go_wp2_with fail
    refine (between_yes _ _ _ _ (by omega)).mono ?_
    rintro _ wz ⟨rfl, rfl⟩
    go_wp2_with fail
    refine (between_yes _ _ _ _ (by omega)).mono ?_
    rintro _ wz ⟨rfl, rfl⟩
    go_wp2_with fail
    refine (between_no _ _ _ _ (by omega)).mono ?_
    rintro _ wz ⟨rfl, rfl⟩
    go_wp2_with fail
    go_ret2
    exact ⟨by rw [Hn.out]; rfl, rfl⟩
  have c6a : ¬ q < 0 := fun h => c6 (.inl h)
  have c6b : ¬ 59 < q := fun h => c6 (.inr h)
  clear c6
  have Hg : Hid (Pr.atO y m d h i q = some (Pr.atT y m d h i q)) := by
    show _ = _
    rw [HO.out, if_pos ⟨by omega, by omega, by omega, by omega, by omega, by have := Hdm.out; omega, by omega, by omega, by omega, by omega, by omega, by omega⟩]
  have HT : Hid (Pr.atT y m d h i q = (d - 1 + Cal.cum y m + Cal.dby y) * 86400 - 62167219200 + h * 3600 + i * 60 + q) := by
    show _ = _
    unfold Pr.atT Cal.num; omega
  have bdb := Cal.dby_bd y (by omega) (by omega)
  have bcm := Cal.cum_bd y m (by omega) (by omega)
  go_enter Tryd.func70, Tryd.ntmps70
  go_wp2_with fail
  refine (between_yes _ _ _ _ (by omega)).mono ?_
  rintro _ wz ⟨rfl, rfl⟩
  go_wp2_with fail
  refine (between_yes _ _ _ _ (by omega)).mono ?_
  rintro _ wz ⟨rfl, rfl⟩
  go_wp2_with fail
  refine (days_month y m _ (by omega) (by omega) (by omega)).mono ?_
  rintro _ wz ⟨rfl, rfl⟩
  rw [← Hdm.out]
  go_wp2_with fail
  refine (between_yes _ _ _ _ (by omega)).mono ?_
  rintro _ wz ⟨rfl, rfl⟩
  go_wp2_with fail
  refine (between_yes _ _ _ _ (by omega)).mono ?_
  rintro _ wz ⟨rfl, rfl⟩
  go_wp2_with fail
  refine (between_yes _ _ _ _ (by omega)).mono ?_
  rintro _ wz ⟨rfl, rfl⟩
  go_wp2_with fail
  go_loop [14, 15] (fun t14 t15 => ∃ k : Int, 1 ≤ k ∧ k ≤ m ∧ t15 = .int .i64 k ∧ t14 = .int .i64 (d - 1 + Cal.cum y k)) (fun _ t15 => (m - intOf t15).toNat)
  case atStart => exact ⟨1, by omega, by omega, rfl, by rw [Cal.cum_1]; go_num⟩
  case round =>
    obtain ⟨k, hk0, hk1, rfl, rfl⟩ := hrel
    have cb := Cal.cum_bd y k hk0 (by omega)
    by_cases hkm : k < m
    · have Hc := Lib.hid (Cal.cum_succ y k hk0 (by omega))
      have db := Cal.dim_lo y k
      go_wp2_with fail
      refine (days_month y k _ (by omega) (by omega) (by omega)).mono ?_
      rintro _ w7 ⟨rfl, rfl⟩
      go_wp2_with fail
      go_round
      case rel => exact ⟨k + 1, by omega, by omega, rfl, by rw [Hc.out]; go_num⟩
      case measure => simp [intOf]; omega
    · obtain rfl : k = m := by omega
      go_wp2_with fail
      go_loop [0, 14] (fun t0 t14 => ∃ z : Int, 0 ≤ z ∧ z ≤ y ∧ t0 = .int .i64 z ∧ t14 = .int .i64 (d - 1 + Cal.cum y k + (Cal.dby y - Cal.dby z))) (fun t0 _ => (intOf t0).toNat)
      case atStart => exact ⟨y, by omega, by omega, rfl, by go_num⟩
      case round =>
        obtain ⟨z, hz0, hz1, rfl, rfl⟩ := hrel
        have bz := Cal.dby_bd z (by omega) (by omega)
        by_cases h4 : 400 ≤ z
        · have e4 := dby_400 (z - 400)
          rw [show z - 400 + 400 = z by omega] at e4
          have E4 := Lib.hid e4
          clear e4
          go_wp2_with fail
          go_round
          case rel => exact ⟨z - 400, by omega, by omega, rfl, by rw [E4.out]; go_num⟩
          case measure => simp [intOf]; omega
        · go_wp2_with fail
          go_loop [14, 16] (fun t14 t16 => ∃ j : Int, 0 ≤ j ∧ j ≤ z ∧ t16 = .int .i64 j ∧ t14 = .int .i64 (d - 1 + Cal.cum y k + (Cal.dby y - Cal.dby z) + Cal.dby j)) (fun _ t16 => (z - intOf t16).toNat)
          case atStart => exact ⟨0, by omega, by omega, rfl, by rw [Cal.dby_zero]; go_num⟩
          case round =>
            obtain ⟨j, hj0, hj1, rfl, rfl⟩ := hrel
            have bj := Cal.dby_bd j (by omega) (by omega)
            by_cases hjz : j < z
            · have Hs := Lib.hid (Cal.dby_succ j hj0)
              have hl := Cal.lp_01 j
              have hl' : 0 ≤ Cal.lp j ∧ Cal.lp j ≤ 1 := by omega
              clear hl
              go_wp2_with fail
              refine (days_year j _ (by omega) (by omega)).mono ?_
              rintro _ w7 ⟨rfl, rfl⟩
              go_wp2_with fail
              go_round
              case rel => exact ⟨j + 1, by omega, by omega, rfl, by rw [Hs.out]; go_num⟩
              case measure => simp [intOf]; omega
            · obtain rfl : j = z := by omega
              go_wp2_with fail
              go_ret2
              exact ⟨by rw [Hg.out, HT.out]; exact congrArg (fun x => Ending.returned (.tuple #[.int .i64 x, .bool true])) (by omega), rfl⟩
theorem at_none (y m d h i q : Int) (w : World) (hy1 : y ≤ 9999) (hyl : -10 ≤ y) (m0 : -1 ≤ m) (m1 : m ≤ 99) (d0 : -1 ≤ d) (d1 : d ≤ 99) (h0 : -1 ≤ h) (h1 : h ≤ 99) (i0 : -1 ≤ i) (i1 : i ≤ 99) (q0 : -1 ≤ q) (q1 : q ≤ 99) (ho : Hid (none = Pr.atO y m d h i q)) :
    Calls Tryd.prog 70 #[.int .i64 y, .int .i64 m, .int .i64 d, .int .i64 h, .int .i64 i, .int .i64 q] w fun e w' => e = .returned (.tuple #[.int .i64 0, .bool false]) ∧ w' = w :=
  (at_any y m d h i q w hy1 hyl m0 m1 d0 d1 h0 h1 i0 i1 q0 q1).mono fun _ _ ⟨he, hw⟩ => ⟨by rw [he, ← ho.out]; rfl, hw.symm⟩
theorem at_some (y m d h i q t : Int) (w : World) (hy1 : y ≤ 9999) (hyl : -10 ≤ y) (m0 : -1 ≤ m) (m1 : m ≤ 99) (d0 : -1 ≤ d) (d1 : d ≤ 99) (h0 : -1 ≤ h) (h1 : h ≤ 99) (i0 : -1 ≤ i) (i1 : i ≤ 99) (q0 : -1 ≤ q) (q1 : q ≤ 99) (ho : Hid (some t = Pr.atO y m d h i q)) :
    Calls Tryd.prog 70 #[.int .i64 y, .int .i64 m, .int .i64 d, .int .i64 h, .int .i64 i, .int .i64 q] w fun e w' => e = .returned (.tuple #[.int .i64 t, .bool true]) ∧ w' = w :=
  (at_any y m d h i q w hy1 hyl m0 m1 d0 d1 h0 h1 i0 i1 q0 q1).mono fun _ _ ⟨he, hw⟩ => ⟨by rw [he, ← ho.out]; rfl, hw.symm⟩
/-- Two digits of a text, in the reference. -/
theorem part_tw (s : ByteArray) (k : Nat) (h : k + 1 < s.size) : partOf (s.extract k (k + 2)) = Pr.tw s.data.toList k := by
  have hl : s.size = s.data.toList.length := Lib.size_eq s
  have e : (s.extract k (k + 2)).data.toList = [s.data.toList.getD k 0, s.data.toList.getD (k + 1) 0] := by
    rw [ext_list, show k + 2 - k = 2 by omega, List.drop_eq_getElem_cons (by omega), List.take_succ_cons, List.drop_eq_getElem_cons (by omega), List.take_succ_cons, List.take_zero]
    rw [List.getD_eq_getElem?_getD, List.getD_eq_getElem?_getD, List.getElem?_eq_getElem (by omega), List.getElem?_eq_getElem (by omega)]; rfl
  unfold partOf Pr.tw Pr.lb
  rw [e]
  obtain ⟨a, ha⟩ : ∃ a, a = s.data.toList.getD k 0 := ⟨_, rfl⟩
  obtain ⟨b, hb⟩ : ∃ b, b = s.data.toList.getD (k + 1) 0 := ⟨_, rfl⟩
  rw [← ha, ← hb]
  simp only [List.all_cons, List.all_nil, Bool.and_true, Bool.and_eq_true, Od.isDig, decide_eq_true_eq, Od.val, List.foldl_cons, List.foldl_nil]
  by_cases hc : (48 ≤ a.toNat ∧ a.toNat ≤ 57) ∧ 48 ≤ b.toNat ∧ b.toNat ≤ 57
  · rw [if_pos hc, if_pos (by omega)]; omega
  · rw [if_neg hc, if_neg (by omega)]
theorem part_q (s : ByteArray) (a b : Nat) (x : Int) (w : World) (hab : b = a + 2) (h : a + 1 < s.size) (hx : Hid (x = Pr.tw s.data.toList a)) :
    Calls Tryd.prog 62 #[.string (s.extract a b)] w fun e w' => e = .returned (.int .i64 x) ∧ w' = w := by
  subst hab
  rw [hx.out, ← part_tw s a h]
  exact (part_any _ w (by simp; omega)).mono fun _ _ ⟨h1, h2⟩ => ⟨h1, h2.symm⟩
set_option maxHeartbeats 2000000 in
set_option maxRecDepth 100000 in
theorem of_any (y : Int) (s : ByteArray) (o : Option Int) (w : World) (hs : s.size = 10) (hyl : -10 ≤ y) (hy1 : y ≤ 9999) (ho : Hid (o = Pr.momO y s.data.toList 0)) :
    Calls Tryd.prog 63 #[.int .i64 y, .string s] w fun e w' => e = .returned (optVal o) ∧ ∃ n, w' = w.drewN n := by
  have r0 := Pr.tw_range s.data.toList 0
  have r1 := Pr.tw_range s.data.toList 2
  have r2 := Pr.tw_range s.data.toList 4
  have r3 := Pr.tw_range s.data.toList 6
  have r4 := Pr.tw_range s.data.toList 8
  have HO : Hid (o = Pr.atO y (Pr.tw s.data.toList 0) (Pr.tw s.data.toList 2) (Pr.tw s.data.toList 4) (Pr.tw s.data.toList 6) (Pr.tw s.data.toList 8)) := ho.out
  obtain ⟨m, hm⟩ : ∃ m, m = Pr.tw s.data.toList 0 := ⟨_, rfl⟩
  obtain ⟨d, hd⟩ : ∃ m, m = Pr.tw s.data.toList 2 := ⟨_, rfl⟩
  obtain ⟨h, hh⟩ : ∃ m, m = Pr.tw s.data.toList 4 := ⟨_, rfl⟩
  obtain ⟨i, hi⟩ : ∃ m, m = Pr.tw s.data.toList 6 := ⟨_, rfl⟩
  obtain ⟨q, hq⟩ : ∃ m, m = Pr.tw s.data.toList 8 := ⟨_, rfl⟩
  rw [← hm] at r0; rw [← hd] at r1; rw [← hh] at r2; rw [← hi] at r3; rw [← hq] at r4
  rw [← hm, ← hd, ← hh, ← hi, ← hq] at HO
  have Hm := Lib.hid hm; have Hd := Lib.hid hd; have Hh := Lib.hid hh; have Hi := Lib.hid hi; have Hq := Lib.hid hq
  obtain ⟨m0, m1⟩ := r0; obtain ⟨d0, d1⟩ := r1; obtain ⟨h0, h1⟩ := r2; obtain ⟨i0, i1⟩ := r3; obtain ⟨q0, q1⟩ := r4
  have z1 : 0 + 1 < s.size := by omega
  have z3 : 2 + 1 < s.size := by omega
  have z5 : 4 + 1 < s.size := by omega
  have z7 : 6 + 1 < s.size := by omega
  have z9 : 8 + 1 < s.size := by omega
  have b2 : (2 : Int) ≤ (s.size : Int) := by omega
  have b4 : (4 : Int) ≤ (s.size : Int) := by omega
  have b6 : (6 : Int) ≤ (s.size : Int) := by omega
  have b8 : (8 : Int) ≤ (s.size : Int) := by omega
  have b10 : (10 : Int) ≤ (s.size : Int) := by omega
  clear hm hd hh hi hq ho hs
  cases o with
  | none =>
    go_enter Tryd.func63, Tryd.ntmps63
    go_wp2_with fail
    go_quiet (first | (go_at_call 62; with_reducible exact Calls.quiet_of_same (part_q s 0 2 m _ rfl z1 Hm)) | (go_at_call 62; with_reducible exact Calls.quiet_of_same (part_q s 2 4 d _ rfl z3 Hd)) | (go_at_call 62; with_reducible exact Calls.quiet_of_same (part_q s 4 6 h _ rfl z5 Hh)) | (go_at_call 62; with_reducible exact Calls.quiet_of_same (part_q s 6 8 i _ rfl z7 Hi)) | (go_at_call 62; with_reducible exact Calls.quiet_of_same (part_q s 8 10 q _ rfl z9 Hq)) | (go_at_call 70; exact Calls.quiet_of_same (at_none y m d h i q _ hy1 hyl m0 m1 d0 d1 h0 h1 i0 i1 q0 q1 HO)))
    go_wp2_with fail
    go_ret2
    exact ⟨rfl, _, rfl⟩
  | some t =>
    go_enter Tryd.func63, Tryd.ntmps63
    go_wp2_with fail
    go_quiet (first | (go_at_call 62; with_reducible exact Calls.quiet_of_same (part_q s 0 2 m _ rfl z1 Hm)) | (go_at_call 62; with_reducible exact Calls.quiet_of_same (part_q s 2 4 d _ rfl z3 Hd)) | (go_at_call 62; with_reducible exact Calls.quiet_of_same (part_q s 4 6 h _ rfl z5 Hh)) | (go_at_call 62; with_reducible exact Calls.quiet_of_same (part_q s 6 8 i _ rfl z7 Hi)) | (go_at_call 62; with_reducible exact Calls.quiet_of_same (part_q s 8 10 q _ rfl z9 Hq)) | (go_at_call 70; exact Calls.quiet_of_same (at_some y m d h i q t _ hy1 hyl m0 m1 d0 d1 h0 h1 i0 i1 q0 q1 HO)))
    go_wp2_with fail
    go_ret2
    exact ⟨rfl, _, rfl⟩
end Go.Proofs.YtehdbceemdpbaaaDoor
