/- The walk of the program's moment: the time of a year and ten digits behind it. -/
import Derived.Test.YtehdbceemdpbaaaDoorTwo
import Derived.Test.YtehdbceemdpbaaaDoorCalW
import Derived.Test.YtehdbceemdpbaaaDoorPar
namespace Go.Proofs.YtehdbceemdpbaaaDoor
open Go Go.RowKit

theorem drewN_trans {a b c : World} (h : ∃ n, b = a.drewN n) (k : ∃ n, c = b.drewN n) : ∃ n, c = a.drewN n := by
  obtain ⟨n, rfl⟩ := h
  obtain ⟨m, rfl⟩ := k
  exact ⟨n + m, World.drewN_drewN _ _ _⟩
theorem drewN_same {a b : World} (h : a = b) : ∃ n, b = a.drewN n := ⟨0, by subst h; rfl⟩
/-- What such a reader answers. -/
def optVal (o : Option Int) : Value := match o with
  | some t => .tuple #[.int .i64 t, .bool true]
  | none => .tuple #[.int .i64 0, .bool false]
theorem lb_at (s : ByteArray) (k : Nat) (h : k < s.size) : Pr.lb s.data.toList k = (s[k].toNat : Int) := by
  have hl : k < s.data.toList.length := h
  unfold Pr.lb
  have e : s.data.toList.getD k 0 = s[k] := by
    rw [List.getD_eq_getElem?_getD, List.getElem?_eq_getElem hl]; rfl
  rw [e]
theorem two_tw (s : ByteArray) (k : Nat) (h : k + 1 < s.size) : (twoN s[k].toNat s[k + 1].toNat = Pr.tw s.data.toList k ∧ 0 ≤ Pr.tw s.data.toList k) ∨ (twoN s[k].toNat s[k + 1].toNat = -1048576 ∧ Pr.tw s.data.toList k = -1) := by
  unfold Pr.tw twoN
  rw [lb_at s k (by omega), lb_at s (k + 1) h]
  by_cases hc : 48 ≤ s[k].toNat ∧ s[k].toNat ≤ 57 ∧ 48 ≤ s[k + 1].toNat ∧ s[k + 1].toNat ≤ 57
  · rw [if_pos hc, if_pos (by omega)]; omega
  · rw [if_neg hc, if_neg (by omega)]; omega
theorem at_bad {y m d h i q m' d' h' i' q' : Int} (hm : (m = m' ∧ 0 ≤ m') ∨ (m = -1048576 ∧ m' = -1)) (hd : (d = d' ∧ 0 ≤ d') ∨ (d = -1048576 ∧ d' = -1)) (hh : (h = h' ∧ 0 ≤ h') ∨ (h = -1048576 ∧ h' = -1)) (hi : (i = i' ∧ 0 ≤ i') ∨ (i = -1048576 ∧ i' = -1)) (hq : (q = q' ∧ 0 ≤ q') ∨ (q = -1048576 ∧ q' = -1))
    (dm : Int) (hdm : dm = Cal.dim y m) (h0 : 28 ≤ dm) (hb : m < 1 ∨ 12 < m ∨ d < 1 ∨ dm < d ∨ h < 0 ∨ 23 < h ∨ i < 0 ∨ 59 < i ∨ q < 0 ∨ 59 < q) : Pr.atO y m' d' h' i' q' = none := by
  unfold Pr.atO
  rw [if_neg]
  rintro ⟨_, _, k2, k3, k4, k5, k6, k7, k8, k9, k10, k11⟩
  obtain rfl : m = m' := by omega
  rw [← hdm] at k5
  omega
theorem at_good {y m d h i q m' d' h' i' q' : Int} (hm : (m = m' ∧ 0 ≤ m') ∨ (m = -1048576 ∧ m' = -1)) (hd : (d = d' ∧ 0 ≤ d') ∨ (d = -1048576 ∧ d' = -1)) (hh : (h = h' ∧ 0 ≤ h') ∨ (h = -1048576 ∧ h' = -1)) (hi : (i = i' ∧ 0 ≤ i') ∨ (i = -1048576 ∧ i' = -1)) (hq : (q = q' ∧ 0 ≤ q') ∨ (q = -1048576 ∧ q' = -1))
    (dm : Int) (hdm : dm = Cal.dim y m) (hy0 : 0 ≤ y) (hy1 : y ≤ 9999) (k2 : ¬ m < 1) (k3 : ¬ 12 < m) (k4 : ¬ d < 1) (k5 : ¬ dm < d) (k6 : ¬ h < 0) (k7 : ¬ 23 < h) (k8 : ¬ i < 0) (k9 : ¬ 59 < i) (k10 : ¬ q < 0) (k11 : ¬ 59 < q) : Pr.atO y m' d' h' i' q' = some (Pr.atT y m d h i q) := by
  obtain rfl : m = m' := by omega
  obtain rfl : d = d' := by omega
  obtain rfl : h = h' := by omega
  obtain rfl : i = i' := by omega
  obtain rfl : q = q' := by omega
  unfold Pr.atO
  rw [if_pos ⟨hy0, hy1, by omega, by omega, by omega, by omega, by omega, by omega, by omega, by omega, by omega, by omega⟩]
theorem twoN_range (a b : Nat) : (0 ≤ twoN a b ∧ twoN a b ≤ 99) ∨ twoN a b = -1048576 := by unfold twoN; split <;> omega
set_option maxHeartbeats 4000000 in
set_option maxRecDepth 100000 in
theorem moment_neg (y : Int) (s : ByteArray) (w : World) (hy : y < 0) :
    Calls Tryd.prog 61 #[.int .i64 y, .string s] w fun e w' => e = .returned (optVal (Pr.momO y s.data.toList 0)) ∧ w = w' := by
  have Hf : Hid (Pr.momO y s.data.toList 0 = none) := by
    show _ = _
    unfold Pr.momO Pr.atO
    rw [if_neg (fun h => by have := h.1; omega)]
  go_enter Tryd.func61, Tryd.ntmps61
  go_wp2_with fail
  go_ret2
  exact ⟨by rw [Hf.out]; rfl, rfl⟩
set_option maxHeartbeats 4000000 in
set_option maxRecDepth 100000 in
theorem moment_any (y : Int) (s : ByteArray) (w : World) (hs : s.size = 10) (hy0 : 0 ≤ y) (hy1 : y ≤ 9999) :
    Calls Tryd.prog 61 #[.int .i64 y, .string s] w fun e w' => e = .returned (optVal (Pr.momO y s.data.toList 0)) ∧ ∃ n, w' = w.drewN n := by
  have HO : Hid (Pr.momO y s.data.toList 0 = Pr.atO y (Pr.tw s.data.toList 0) (Pr.tw s.data.toList 2) (Pr.tw s.data.toList 4) (Pr.tw s.data.toList 6) (Pr.tw s.data.toList 8)) := rfl
  have T0 := Lib.hid (two_tw s 0 (by omega)); have T1 := Lib.hid (two_tw s 2 (by omega)); have T2 := Lib.hid (two_tw s 4 (by omega)); have T3 := Lib.hid (two_tw s 6 (by omega)); have T4 := Lib.hid (two_tw s 8 (by omega))
  have r0 := twoN_range s[0].toNat s[1].toNat
  have r1 := twoN_range s[2].toNat s[3].toNat
  have r2 := twoN_range s[4].toNat s[5].toNat
  have r3 := twoN_range s[6].toNat s[7].toNat
  have r4 := twoN_range s[8].toNat s[9].toNat
  obtain ⟨m, hmm⟩ : ∃ x, x = twoN s[0].toNat s[1].toNat := ⟨_, rfl⟩
  obtain ⟨d, hdd⟩ : ∃ x, x = twoN s[2].toNat s[3].toNat := ⟨_, rfl⟩
  obtain ⟨h, hhh⟩ : ∃ x, x = twoN s[4].toNat s[5].toNat := ⟨_, rfl⟩
  obtain ⟨i, hii⟩ : ∃ x, x = twoN s[6].toNat s[7].toNat := ⟨_, rfl⟩
  obtain ⟨q, hqq⟩ : ∃ x, x = twoN s[8].toNat s[9].toNat := ⟨_, rfl⟩
  rw [← hmm] at r0
  rw [← hdd] at r1
  rw [← hhh] at r2
  rw [← hii] at r3
  rw [← hqq] at r4
  rw [← hmm] at T0
  rw [← hdd] at T1
  rw [← hhh] at T2
  rw [← hii] at T3
  rw [← hqq] at T4
  have Hmm := Lib.hid hmm
  have Hdd := Lib.hid hdd
  have Hhh := Lib.hid hhh
  have Hii := Lib.hid hii
  have Hqq := Lib.hid hqq
  clear hmm hdd hhh hii hqq
  have R0 := Lib.hid r0; have R1 := Lib.hid r1; have R2 := Lib.hid r2; have R3 := Lib.hid r3; have R4 := Lib.hid r4
  clear r0 r1 r2 r3 r4
  go_enter Tryd.func61, Tryd.ntmps61
  go_wp2_with fail
  refine (two_any s 0 _ (by omega) (by omega) (by omega)).mono ?_
  rintro _ w1 ⟨rfl, hb⟩
  rw [← Hmm.out]
  have Hb1 := Lib.hid hb
  clear hb
  go_wp2_with fail
  refine (two_any s 2 _ (by omega) (by omega) (by omega)).mono ?_
  rintro _ w2 ⟨rfl, hb⟩
  rw [← Hdd.out]
  have Hb2 := Lib.hid (drewN_trans Hb1.out hb)
  clear hb Hb1
  go_wp2_with fail
  refine (two_any s 4 _ (by omega) (by omega) (by omega)).mono ?_
  rintro _ w3 ⟨rfl, hb⟩
  rw [← Hhh.out]
  have Hb3 := Lib.hid (drewN_trans Hb2.out hb)
  clear hb Hb2
  go_wp2_with fail
  refine (two_any s 6 _ (by omega) (by omega) (by omega)).mono ?_
  rintro _ w4 ⟨rfl, hb⟩
  rw [← Hii.out]
  have Hb4 := Lib.hid (drewN_trans Hb3.out hb)
  clear hb Hb3
  go_wp2_with fail
  refine (two_any s 8 _ (by omega) (by omega) (by omega)).mono ?_
  rintro _ w5 ⟨rfl, hb⟩
  rw [← Hqq.out]
  have Hb5 := Lib.hid (drewN_trans Hb4.out hb)
  clear hb Hb4
  have hm1 := R0.out; have hd1 := R1.out; have hh1 := R2.out; have hi1 := R3.out; have hq1 := R4.out
  have hdim := Cal.dim_lo y m
  have bm : -1048576 ≤ m ∧ m ≤ 99 := by omega
  have bd : -1048576 ≤ d ∧ d ≤ 99 := by omega
  have bh : -1048576 ≤ h ∧ h ≤ 99 := by omega
  have bi : -1048576 ≤ i ∧ i ≤ 99 := by omega
  have bq : -1048576 ≤ q ∧ q ≤ 99 := by omega
  obtain ⟨bm0, bm1⟩ := bm; obtain ⟨bd0, bd1⟩ := bd; obtain ⟨bh0, bh1⟩ := bh; obtain ⟨bi0, bi1⟩ := bi; obtain ⟨bq0, bq1⟩ := bq
  clear hm1 hd1 hh1 hi1 hq1 R0 R1 R2 R3 R4
  obtain ⟨dm, hdm⟩ : ∃ dm, dm = Cal.dim y m := ⟨_, rfl⟩
  have Hdm := Lib.hid hdm
  rw [← hdm] at hdim
  obtain ⟨hdim0, hdim1⟩ := hdim
  clear hdm
  by_cases c0 : m < 1
  · have Hn : Hid (Pr.momO y s.data.toList 0 = none) := by
      show _ = _
      rw [HO.out]; exact at_bad T0.out T1.out T2.out T3.out T4.out dm Hdm.out hdim0 (by omega)
    go_wp2_with fail
    go_ret2
    exact ⟨by rw [Hn.out]; rfl, Hb5.out⟩
  by_cases c1 : 12 < m
  · have Hn : Hid (Pr.momO y s.data.toList 0 = none) := by
      show _ = _
      rw [HO.out]; exact at_bad T0.out T1.out T2.out T3.out T4.out dm Hdm.out hdim0 (by omega)
    go_wp2_with fail
    go_ret2
    exact ⟨by rw [Hn.out]; rfl, Hb5.out⟩
  by_cases c2 : d < 1
  · have Hn : Hid (Pr.momO y s.data.toList 0 = none) := by
      show _ = _
      rw [HO.out]; exact at_bad T0.out T1.out T2.out T3.out T4.out dm Hdm.out hdim0 (by omega)
    go_wp2_with fail
    go_ret2
    exact ⟨by rw [Hn.out]; rfl, Hb5.out⟩
  by_cases c3 : dm < d
  · have Hn : Hid (Pr.momO y s.data.toList 0 = none) := by
      show _ = _
      rw [HO.out]; exact at_bad T0.out T1.out T2.out T3.out T4.out dm Hdm.out hdim0 (by omega)
    go_wp2_with fail
    refine (month_any y m _ hy0 (by omega)).mono ?_
    rintro _ w6 ⟨rfl, rfl⟩
    rw [← Hdm.out]
    go_wp2_with fail
    go_ret2
    exact ⟨by rw [Hn.out]; rfl, Hb5.out⟩
  by_cases c4 : h < 0
  · have Hn : Hid (Pr.momO y s.data.toList 0 = none) := by
      show _ = _
      rw [HO.out]; exact at_bad T0.out T1.out T2.out T3.out T4.out dm Hdm.out hdim0 (by omega)
    go_wp2_with fail
    refine (month_any y m _ hy0 (by omega)).mono ?_
    rintro _ w6 ⟨rfl, rfl⟩
    rw [← Hdm.out]
    go_wp2_with fail
    go_ret2
    exact ⟨by rw [Hn.out]; rfl, Hb5.out⟩
  by_cases c5 : 23 < h
  · have Hn : Hid (Pr.momO y s.data.toList 0 = none) := by
      show _ = _
      rw [HO.out]; exact at_bad T0.out T1.out T2.out T3.out T4.out dm Hdm.out hdim0 (by omega)
    go_wp2_with fail
    refine (month_any y m _ hy0 (by omega)).mono ?_
    rintro _ w6 ⟨rfl, rfl⟩
    rw [← Hdm.out]
    go_wp2_with fail
    go_ret2
    exact ⟨by rw [Hn.out]; rfl, Hb5.out⟩
  by_cases c6 : i < 0
  · have Hn : Hid (Pr.momO y s.data.toList 0 = none) := by
      show _ = _
      rw [HO.out]; exact at_bad T0.out T1.out T2.out T3.out T4.out dm Hdm.out hdim0 (by omega)
    go_wp2_with fail
    refine (month_any y m _ hy0 (by omega)).mono ?_
    rintro _ w6 ⟨rfl, rfl⟩
    rw [← Hdm.out]
    go_wp2_with fail
    go_ret2
    exact ⟨by rw [Hn.out]; rfl, Hb5.out⟩
  by_cases c7 : 59 < i
  · have Hn : Hid (Pr.momO y s.data.toList 0 = none) := by
      show _ = _
      rw [HO.out]; exact at_bad T0.out T1.out T2.out T3.out T4.out dm Hdm.out hdim0 (by omega)
    go_wp2_with fail
    refine (month_any y m _ hy0 (by omega)).mono ?_
    rintro _ w6 ⟨rfl, rfl⟩
    rw [← Hdm.out]
    go_wp2_with fail
    go_ret2
    exact ⟨by rw [Hn.out]; rfl, Hb5.out⟩
  by_cases c8 : q < 0
  · have Hn : Hid (Pr.momO y s.data.toList 0 = none) := by
      show _ = _
      rw [HO.out]; exact at_bad T0.out T1.out T2.out T3.out T4.out dm Hdm.out hdim0 (by omega)
    go_wp2_with fail
    refine (month_any y m _ hy0 (by omega)).mono ?_
    rintro _ w6 ⟨rfl, rfl⟩
    rw [← Hdm.out]
    go_wp2_with fail
    go_ret2
    exact ⟨by rw [Hn.out]; rfl, Hb5.out⟩
  by_cases c9 : 59 < q
  · have Hn : Hid (Pr.momO y s.data.toList 0 = none) := by
      show _ = _
      rw [HO.out]; exact at_bad T0.out T1.out T2.out T3.out T4.out dm Hdm.out hdim0 (by omega)
    go_wp2_with fail
    refine (month_any y m _ hy0 (by omega)).mono ?_
    rintro _ w6 ⟨rfl, rfl⟩
    rw [← Hdm.out]
    go_wp2_with fail
    go_ret2
    exact ⟨by rw [Hn.out]; rfl, Hb5.out⟩
  have Hg : Hid (Pr.momO y s.data.toList 0 = some (Pr.atT y m d h i q)) := by
    show _ = _
    rw [HO.out]; exact at_good T0.out T1.out T2.out T3.out T4.out dm Hdm.out hy0 hy1 c0 c1 c2 c3 c4 c5 c6 c7 c8 c9
  have bdb := Cal.dby_bd y hy0 (by omega)
  have HT : Hid (Pr.atT y m d h i q = (Cal.dby y + (d - 1) + Cal.cum y m) * 86400 - 62167219200 + h * 3600 + i * 60 + q) := by
    show _ = _
    unfold Pr.atT Cal.num; omega
  go_wp2_with fail
  refine (month_any y m _ hy0 (by omega)).mono ?_
  rintro _ w6 ⟨rfl, rfl⟩
  rw [← Hdm.out]
  go_wp2_with fail
  refine (before_any y _ hy0 (by omega)).mono ?_
  rintro _ w6 ⟨rfl, rfl⟩
  go_wp2_with fail
  go_loop [11, 12] (fun t11 t12 => ∃ k : Int, 1 ≤ k ∧ k ≤ m ∧ t12 = .int .i64 k ∧ t11 = .int .i64 (Cal.dby y + (d - 1) + Cal.cum y k)) (fun _ t12 => (m - intOf t12).toNat)
  case atStart => exact ⟨1, by omega, by omega, rfl, by rw [Cal.cum_1]; go_num⟩
  case round =>
    obtain ⟨k, hk0, hk1, rfl, rfl⟩ := hrel
    have cb := Cal.cum_bd y k hk0 (by omega)
    by_cases hkm : k < m
    · have Hc := Lib.hid (Cal.cum_succ y k hk0 (by omega))
      have db := Cal.dim_lo y k
      go_wp2_with fail
      refine (month_any y k _ hy0 (by omega)).mono ?_
      rintro _ w7 ⟨rfl, rfl⟩
      go_wp2_with fail
      go_round
      case rel => exact ⟨k + 1, by omega, by omega, rfl, by rw [Hc.out]; go_num⟩
      case measure => simp [intOf]; omega
    · obtain rfl : k = m := by omega
      go_wp2_with fail
      go_ret2
      exact ⟨by rw [Hg.out, HT.out]; exact congrArg (fun x => Ending.returned (.tuple #[.int .i64 x, .bool true])) (by omega), Hb5.out⟩
theorem moment_all (y : Int) (s : ByteArray) (w : World) (hs : s.size = 10) (hy1 : y ≤ 9999) :
    Calls Tryd.prog 61 #[.int .i64 y, .string s] w fun e w' => e = .returned (optVal (Pr.momO y s.data.toList 0)) ∧ ∃ n, w' = w.drewN n := by
  by_cases hy : y < 0
  · exact (moment_neg y s w hy).mono fun _ _ ⟨h1, h2⟩ => ⟨h1, drewN_same h2⟩
  · exact moment_any y s w hs (by omega) hy1
/-- Two digits as the program has them. -/
def twP (l : List UInt8) (k : Nat) : Int := if Pr.tw l k < 0 then -1048576 else Pr.tw l k
theorem two_q (s : ByteArray) (k : Nat) (w : World) (hs : s.size ≤ 1000) (h1 : k + 1 < s.size) :
    Calls Tryd.prog 60 #[.string s, .int .i64 k] w fun e w' => e = .returned (.int .i64 (twP s.data.toList k)) ∧ ∃ n, w' = w.drewN n := by
  refine (two_any s k w hs (by omega) h1).mono ?_
  rintro e w' ⟨rfl, hq⟩
  refine ⟨?_, hq⟩
  have h := two_tw s k h1
  unfold twP
  rcases h with ⟨h, h0⟩ | ⟨h, h0⟩
  · rw [if_neg (by omega), h]
  · rw [if_pos (by omega), h]
theorem twP_range (l : List UInt8) (k : Nat) : -1048576 ≤ twP l k ∧ twP l k ≤ 99 := by
  have := Pr.tw_range l k
  unfold twP; split <;> omega
/-! ### bytes of a part of a text -/
theorem lb_bt (s : ByteArray) (k : Nat) : Pr.lb s.data.toList k = PlainAid.bt s k := by
  by_cases h : k < s.size
  · rw [lb_at s k h, PlainAid.get_bt]
  · rw [PlainAid.bt_end s (by omega)]
    have hl : s.data.toList.length ≤ k := by have : s.size = s.data.toList.length := Lib.size_eq s; omega
    unfold Pr.lb
    rw [List.getD_eq_getElem?_getD, List.getElem?_eq_none hl]; rfl
theorem ext_list (s : ByteArray) (a b : Nat) : (s.extract a b).data.toList = (s.data.toList.drop a).take (b - a) := by
  obtain ⟨⟨l⟩⟩ := s
  rw [ByteArray.extract_mk]
theorem lb_ext (s : ByteArray) (a b k : Nat) (h : a + k < b) : Pr.lb (s.extract a b).data.toList k = Pr.lb s.data.toList (a + k) := by
  unfold Pr.lb
  rw [ext_list, List.getD_eq_getElem?_getD, List.getD_eq_getElem?_getD, List.getElem?_take, if_pos (by omega), List.getElem?_drop]
theorem tw_ext (s : ByteArray) (a b k : Nat) (h : a + k + 1 < b) : Pr.tw (s.extract a b).data.toList k = Pr.tw s.data.toList (a + k) := by
  unfold Pr.tw
  rw [lb_ext s a b k (by omega), lb_ext s a b (k + 1) (by omega), Nat.add_assoc]
theorem mom_ext (y : Int) (s : ByteArray) (a : Nat) : Pr.momO y (s.extract a (a + 10)).data.toList 0 = Pr.momO y s.data.toList a := by
  unfold Pr.momO
  rw [tw_ext s a _ 0 (by omega), tw_ext s a _ (0 + 2) (by omega), tw_ext s a _ (0 + 4) (by omega), tw_ext s a _ (0 + 6) (by omega), tw_ext s a _ (0 + 8) (by omega)]
  rfl
end Go.Proofs.YtehdbceemdpbaaaDoor
