/- The walk of ParseLong of the reference. -/
import Derived.Test.YtehdbceemdpbaaaDoorParsR
import Derived.Test.YtehdbceemdpbaaaDoorParsL
namespace Go.Proofs.YtehdbceemdpbaaaDoor
open Go Go.RowKit

/-- Four digits of a text, in the reference. -/
theorem part_four (s : ByteArray) (h : 3 < s.size) : partOf (s.extract 0 4) = if 0 ≤ Pr.tw s.data.toList 0 ∧ 0 ≤ Pr.tw s.data.toList 2 then Pr.tw s.data.toList 0 * 100 + Pr.tw s.data.toList 2 else -1 := by
  have hl : s.size = s.data.toList.length := Lib.size_eq s
  obtain ⟨l, hll⟩ : ∃ l, l = s.data.toList := ⟨_, rfl⟩
  have e : (s.extract 0 4).data.toList = [l.getD 0 0, l.getD 1 0, l.getD 2 0, l.getD 3 0] := by
    rw [ext_list, ← hll, List.drop_zero]
    rw [← hll] at hl
    have h4 : 4 ≤ l.length := by omega
    clear hl hll
    match l, h4 with
    | a :: b :: c :: d :: r, _ => rfl
  unfold partOf Pr.tw Pr.lb
  rw [e, ← hll]
  simp only [List.all_cons, List.all_nil, Bool.and_true, Bool.and_eq_true, Od.isDig, decide_eq_true_eq, Od.val, List.foldl_cons, List.foldl_nil]
  generalize l.getD 0 0 = a
  generalize l.getD (0 + 1) 0 = b
  generalize l.getD 2 0 = c
  generalize l.getD (2 + 1) 0 = d
  by_cases c1 : 48 ≤ a.toNat ∧ a.toNat ≤ 57 ∧ 48 ≤ b.toNat ∧ b.toNat ≤ 57
  · by_cases c2 : 48 ≤ c.toNat ∧ c.toNat ≤ 57 ∧ 48 ≤ d.toNat ∧ d.toNat ≤ 57
    · rw [if_pos (by omega), if_pos (by rw [if_pos (by omega), if_pos (by omega)]; omega), if_pos (by omega), if_pos (by omega)]; omega
    · rw [if_neg (by omega), if_neg (by rw [if_pos (by omega), if_neg (by omega)]; omega)]
  · rw [if_neg (by omega), if_neg (by rw [if_neg (by omega)]; omega)]
/-- The year as the reference has it. -/
def yrR (l : List UInt8) : Int := if 0 ≤ Pr.tw l 0 ∧ 0 ≤ Pr.tw l 2 then Pr.tw l 0 * 100 + Pr.tw l 2 else -1
theorem part_yr (s : ByteArray) (x : Int) (w : World) (h : 3 < s.size) (hx : Hid (x = yrR s.data.toList)) :
    Calls Tryd.prog 62 #[.string (s.extract 0 4)] w fun e w' => e = .returned (.int .i64 x) ∧ w' = w := by
  rw [hx.out, yrR, ← part_four s h]
  exact (part_any _ w (by simp; omega)).mono fun _ _ ⟨h1, h2⟩ => ⟨h1, h2.symm⟩
theorem yrR_range (l : List UInt8) : -1 ≤ yrR l ∧ yrR l ≤ 9999 := by
  have := Pr.tw_range l 0
  have := Pr.tw_range l 2
  unfold yrR; split <;> omega
theorem long_tail2 {l : List UInt8} {x u : Int} {o : Option Int} (hF : Pr.Form l) (hx : x = yrR l) (ho : o = Pr.momO x l 4) (hu : u = if l.length = 15 then 0 else (Pr.val (Pr.frac l) : Int)) :
    longVal (Pr.longO l) = longM o u := by
  have r0 := Pr.tw_range l 0
  have r2 := Pr.tw_range l 2
  unfold yrR at hx
  by_cases h : 0 ≤ Pr.tw l 0 ∧ 0 ≤ Pr.tw l 2
  · rw [if_pos h] at hx
    unfold Pr.longO
    rw [if_pos ⟨hF, h.1, h.2⟩, ← hx, ← ho]
    subst hu
    cases o <;> rfl
  · rw [if_neg h] at hx
    have ho2 : o = none := by
      rw [ho]; unfold Pr.momO Pr.atO; rw [if_neg (fun h => by have := h.1; omega)]
    subst ho2
    exact long_none (fun hh => h ⟨hh.2.1, hh.2.2⟩)
theorem parse_zero (s : ByteArray) (hs : s.size = 0) : partOf s = 0 := by
  have : s.data.toList = [] := List.eq_nil_of_length_eq_zero (by have : s.size = s.data.toList.length := Lib.size_eq s; omega)
  unfold partOf; rw [this]; rfl
set_option maxHeartbeats 2000000 in
set_option maxRecDepth 100000 in
theorem refparseLong_15 (s : ByteArray) (w : World) (hlo : ¬ s.size < 15) (hhi : ¬ 22 < s.size) (hz : PlainAid.bt s (s.size - 1) = 90) (h15 : s.size = 15) :
    Calls Tryd.prog 41 #[.string s] w fun e w' => e = .returned (longVal (Pr.longO s.data.toList)) ∧ ∃ n, w' = w.drewN n := by
  have hsz : s.size = s.data.toList.length := Lib.size_eq s
  have hb := PlainAid.get_bt s
  have e1 := lb_bt s (s.size - 1)
  have rx := yrR_range s.data.toList
  obtain ⟨x, hx⟩ : ∃ a, a = yrR s.data.toList := ⟨_, rfl⟩
  obtain ⟨o, ho⟩ : ∃ o, o = Pr.momO x s.data.toList 4 := ⟨_, rfl⟩
  have Ho : Hid (o = Pr.momO x (s.extract 4 14).data.toList 0) := by show _ = _; rw [mom_ext _ s 4]; exact ho
  have he : (s.extract 4 14).size = 10 := by simp; omega
  have He := Lib.hid he
  have Hx := Lib.hid hx
  have HO := Lib.hid ho
  rw [← hx] at rx
  obtain ⟨rx0, rx1⟩ := rx
  have Hf : Hid (longVal (Pr.longO s.data.toList) = longM o 0) := by
    show _ = _
    refine long_tail2 ⟨by omega, by omega, by omega, ?_, fun h => by omega⟩ hx ho (by rw [if_pos (by omega)])
    rw [← hsz, e1]; exact hz
  have q3 : 3 < s.size := by omega
  have q4 : (4 : Int) ≤ (s.size : Int) := by omega
  have q14 : (14 : Int) ≤ (s.size : Int) := by omega
  have q10 : -10 ≤ x := by omega
  have hg : 15 ≤ s.size := by omega
  have hl : s.size ≤ 15 := by omega
  have h16 : ((s.size : Int) == 16) = false := by simp; omega
  have hem := isEmpty_of.1 (show (s.extract 14 (s.size - 1)).size = 0 by simp; omega)
  have hem2 : (!(s.extract 14 (s.size - 1)).toList.isEmpty) = false := by rw [hem]; rfl
  clear h15 hsz e1 he hx ho
  cases o with
  | none =>
    go_enter Tryd.func41, Tryd.ntmps41
    go_wp2_with fail
    go_quiet (first | (go_at_call 62; exact Calls.quiet_of_same (part_yr s x _ q3 Hx)) | (go_at_call 63; exact Calls.quiet_of (of_none _ x _ _ He.out q10 rx1 rfl Ho)))
    go_wp2_with fail
    go_ret3
    exact ⟨by rw [Hf.out]; rfl, _, rfl⟩
  | some t =>
    go_enter Tryd.func41, Tryd.ntmps41
    go_wp2_with fail
    go_quiet (first | (go_at_call 62; exact Calls.quiet_of_same (part_yr s x _ q3 Hx)) | (go_at_call 63; exact Calls.quiet_of (of_some _ x t _ _ He.out q10 rx1 rfl Ho)))
    go_wp2_with fail
    go_ret3
    exact ⟨by rw [Hf.out]; rfl, _, rfl⟩
/-- What the padding has: g's bytes and so many noughts. -/
theorem pad_frac {l : List UInt8} {j : Nat} (h0 : 17 ≤ l.length) (h1 : l.length ≤ 22) (hj : l.length - 16 + j = 6) : (l.drop 15).take (l.length - 16) ++ List.replicate j 48 = Pr.frac l := by
  unfold Pr.frac
  rw [show j = 22 - l.length by omega]
theorem str_0 (a : ByteArray) : (a ++ (⟨#[48]⟩ : ByteArray)).data.toList = a.data.toList ++ [48] := by simp
theorem part_frac (s : ByteArray) (l : List UInt8) (h : s.data.toList = Pr.frac l) : partOf s = if (Pr.frac l).all Pr.isDig then (Pr.val (Pr.frac l) : Int) else -1 := by
  unfold partOf; rw [h]; rfl
theorem part_is (s : ByteArray) (x : Int) (w : World) (hs : s.size ≤ 10) (hx : Hid (x = partOf s)) :
    Calls Tryd.prog 62 #[.string s] w fun e w' => e = .returned (.int .i64 x) ∧ w' = w := by
  rw [hx.out]
  exact (part_any _ w hs).mono fun _ _ ⟨h1, h2⟩ => ⟨h1, h2.symm⟩
def strLen : Value → Nat | .string s => s.size | _ => 0
set_option maxHeartbeats 4000000 in
set_option maxRecDepth 100000 in
theorem refparseLong_more (s : ByteArray) (w : World) (hlo : ¬ s.size < 15) (hhi : ¬ 22 < s.size) (hz : PlainAid.bt s (s.size - 1) = 90) (h15 : ¬ s.size = 15) (h16 : ¬ s.size = 16) :
    Calls Tryd.prog 41 #[.string s] w fun e w' => e = .returned (longVal (Pr.longO s.data.toList)) ∧ ∃ n, w' = w.drewN n := by
  have hsz : s.size = s.data.toList.length := Lib.size_eq s
  have e1 := lb_bt s (s.size - 1)
  have e2 := lb_bt s (s.size - 2)
  have e14 := lb_bt s 14
  have rx := yrR_range s.data.toList
  obtain ⟨x, hx⟩ : ∃ a, a = yrR s.data.toList := ⟨_, rfl⟩
  obtain ⟨o, ho⟩ : ∃ o, o = Pr.momO x s.data.toList 4 := ⟨_, rfl⟩
  have Ho : Hid (o = Pr.momO x (s.extract 4 14).data.toList 0) := by show _ = _; rw [mom_ext _ s 4]; exact ho
  have he : (s.extract 4 14).size = 10 := by simp; omega
  have He := Lib.hid he
  have Hx := Lib.hid hx
  have HO := Lib.hid ho
  rw [← hx] at rx
  obtain ⟨rx0, rx1⟩ := rx
  have q3 : 3 < s.size := by omega
  have q4 : (4 : Int) ≤ (s.size : Int) := by omega
  have q14 : (14 : Int) ≤ (s.size : Int) := by omega
  have q10 : -10 ≤ x := by omega
  have hg : 17 ≤ s.size := by omega
  have h162 : ((s.size : Int) == 16) = false := by simp; omega
  have hfs : (s.extract 14 (s.size - 1)).size = s.size - 15 := by simp; omega
  have hem := isEmpty_of.2 (show ¬ (s.extract 14 (s.size - 1)).size = 0 by omega)
  have hem2 : (!(s.extract 14 (s.size - 1)).toList.isEmpty) = true := by rw [hem]; rfl
  have Hbf : Hid (∀ (n : Nat) (h : n < (s.extract 14 (s.size - 1)).size), (((s.extract 14 (s.size - 1))[n]'h).toNat : Int) = PlainAid.bt s (14 + n)) := fun n h => by
    rw [PlainAid.get_bt, ← lb_bt, ← lb_bt, lb_ext s 14 _ n (by omega)]
  have hbs := PlainAid.get_bt s
  have HG : Hid (((s.extract 14 (s.size - 1)).extract 1 (s.size - 1 - 14)).data.toList = (s.data.toList.drop 15).take (s.data.toList.length - 16)) := by
    show _ = _
    rw [ext_list, ext_list, List.drop_take, List.drop_drop, List.take_take]
    congr 1
    omega
  have Hsz := Lib.hid hsz
  have HF : Hid (PlainAid.bt s 14 = 46 → PlainAid.bt s (s.size - 2) ≠ 48 → (Pr.frac s.data.toList).all Pr.isDig = true → Pr.Form s.data.toList) := by
    intro ha hb hd
    refine ⟨by omega, by omega, by omega, ?_, fun _ => ⟨?_, ?_, hd⟩⟩
    · rw [← hsz, e1]; exact hz
    · rw [e14]; exact ha
    · rw [← hsz, e2]; exact hb
  have HB : Hid (Pr.Form s.data.toList → PlainAid.bt s 14 = 46 ∧ PlainAid.bt s (s.size - 2) ≠ 48 ∧ (Pr.frac s.data.toList).all Pr.isDig = true) := by
    intro h
    have h2 := h.2.2.2.2 (by omega)
    rw [e14, ← hsz, e2] at h2
    exact h2
  have Hfs := Lib.hid hfs
  have hzl : 17 ≤ s.size := hg
  have hzh : s.size ≤ 22 := by omega
  have Hz := Lib.hid hz
  clear he hx ho hsz e1 e2 e14 hfs hem h15 h16 hlo hhi hg
  go_enter Tryd.func41, Tryd.ntmps41
  go_wp2_with fail
  go_loop [7] (fun t7 => ∃ (g : ByteArray) (j : Nat), t7 = .string g ∧ g.size ≤ 6 ∧ s.size - 16 + j ≤ 6 ∧ Hid (g.data.toList = (s.data.toList.drop 15).take (s.data.toList.length - 16) ++ List.replicate j 48 ∧ g.size = s.size - 16 + j)) (fun t7 => 6 - strLen t7)
  case atStart => exact ⟨_, 0, rfl, by simp; omega, by omega, by rw [HG.out]; simp, by simp; omega⟩
  case round =>
    obtain ⟨g, j, rfl, hg6, hj, HJ⟩ := hrel
    by_cases h6 : g.size < 6
    · have HJ2 : Hid ((g ++ (⟨#[48]⟩ : ByteArray)).data.toList = (s.data.toList.drop 15).take (s.data.toList.length - 16) ++ List.replicate (j + 1) 48 ∧ (g ++ (⟨#[48]⟩ : ByteArray)).size = s.size - 16 + (j + 1)) := by
        refine ⟨?_, ?_⟩
        · rw [str_0, HJ.out.1, List.replicate_succ', List.append_assoc]
        · have := HJ.out.2
          rw [Lib.size_eq, str_0, List.length_append, ← Lib.size_eq, this]; simp; omega
      have hj2 : s.size - 16 + (j + 1) ≤ 6 := by have := HJ.out.2; omega
      have hg62 : (g ++ (⟨#[48]⟩ : ByteArray)).size ≤ 6 := by have := HJ2.out.2; omega
      have Hm : Hid (6 - (g ++ (⟨#[48]⟩ : ByteArray)).size < 6 - g.size) := by have h1 := HJ.out.2; have h2 := HJ2.out.2; show _ < _; omega
      go_wp2_with fail
      go_round
      case rel => exact ⟨_, j + 1, rfl, hg62, hj2, HJ2⟩
      case measure => exact Hm.out
    · have hgf : g.data.toList = Pr.frac s.data.toList := by
        have h1 := HJ.out
        rw [h1.1]
        exact pad_frac (by have := Hsz.out; omega) (by have := Hsz.out; omega) (by have := Hsz.out; omega)
      obtain ⟨u, hu⟩ : ∃ u, u = partOf g := ⟨_, rfl⟩
      have hu2 := part_frac g s.data.toList hgf
      rw [← hu] at hu2
      have Hu := Lib.hid hu
      have Hu2 := Lib.hid hu2
      have hg10 : g.size ≤ 10 := by omega
      have hb0 := Hbf.out 0 (by have := Hfs.out; omega)
      have hb1 := Hbf.out (s.size - 1 - 14 - 1) (by have := Hfs.out; omega)
      rw [show 14 + (s.size - 1 - 14 - 1) = s.size - 2 by omega] at hb1
      rw [show 14 + 0 = 14 from rfl] at hb0
      obtain ⟨c0, hc0⟩ : ∃ c, c = PlainAid.bt s 14 := ⟨_, rfl⟩
      obtain ⟨c1, hc1⟩ : ∃ c, c = PlainAid.bt s (s.size - 2) := ⟨_, rfl⟩
      rw [← hc0] at hb0 HF HB
      rw [← hc1] at hb1 HF HB
      clear hu hu2 hgf hc0 hc1
      go_wp2_with fail
      refine (part_is g u _ hg10 Hu).mono ?_
      rintro _ w1 ⟨rfl, rfl⟩
      have hcs : (¬ c0 = 46) ∨ (c0 = 46 ∧ u < 0) ∨ (c0 = 46 ∧ 0 ≤ u ∧ c1 = 48) ∨ (c0 = 46 ∧ 0 ≤ u ∧ ¬ c1 = 48) := by omega
      rcases hcs with k0 | ⟨rfl, ku⟩ | ⟨rfl, ku, rfl⟩ | ⟨rfl, ku, k1⟩
      · have Hf := Lib.hid (long_none (l := s.data.toList) (fun h => k0 (HB.out h.1).1))
        have k01 : (c0 == 46) = false := by simpa using k0
        have k02 : (c0 != 46) = true := by simpa using k0
        clear k0
        go_wp2_with fail
        go_ret3
        exact ⟨by rw [Hf.out]; rfl, 0, rfl⟩
      · have Hf := Lib.hid (long_none (l := s.data.toList) (fun h => by
          have h1 := Hu2.out
          rw [if_pos (HB.out h.1).2.2] at h1
          omega))
        go_wp2_with fail
        go_ret3
        exact ⟨by rw [Hf.out]; rfl, 0, rfl⟩
      · have Hf := Lib.hid (long_none (l := s.data.toList) (fun h => (HB.out h.1).2.1 rfl))
        go_wp2_with fail
        go_ret3
        exact ⟨by rw [Hf.out]; rfl, 0, rfl⟩
      · have k11 : (c1 == 48) = false := by simpa using k1
        have hdig : (Pr.frac s.data.toList).all Pr.isDig = true := by
          by_cases hd : (Pr.frac s.data.toList).all Pr.isDig = true
          · exact hd
          · have h1 := Hu2.out
            rw [if_neg hd] at h1
            omega
        have Hf : Hid (longVal (Pr.longO s.data.toList) = longM o u) := by
          have h1 := Hu2.out
          rw [if_pos hdig] at h1
          exact long_tail2 (HF.out rfl k1 hdig) Hx.out HO.out (by rw [if_neg (by have := Hsz.out; omega)]; exact h1)
        clear hdig k1
        cases o with
        | none =>
          go_wp2_with fail
          go_quiet (first | (go_at_call 62; exact Calls.quiet_of_same (part_yr s x _ q3 Hx)) | (go_at_call 63; exact Calls.quiet_of (of_none _ x _ _ He.out q10 rx1 rfl Ho)))
          go_wp2_with fail
          go_ret3
          exact ⟨by rw [Hf.out]; rfl, _, rfl⟩
        | some t =>
          go_wp2_with fail
          go_quiet (first | (go_at_call 62; exact Calls.quiet_of_same (part_yr s x _ q3 Hx)) | (go_at_call 63; exact Calls.quiet_of (of_some _ x t _ _ He.out q10 rx1 rfl Ho)))
          go_wp2_with fail
          go_ret3
          exact ⟨by rw [Hf.out]; rfl, _, rfl⟩
end Go.Proofs.YtehdbceemdpbaaaDoor
