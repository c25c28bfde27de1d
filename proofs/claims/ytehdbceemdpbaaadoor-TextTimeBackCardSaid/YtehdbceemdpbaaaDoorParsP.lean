/- The walks of ParseShort and ParseLong of the program. -/
import Derived.Test.YtehdbceemdpbaaaDoorMoment
namespace Go.Proofs.YtehdbceemdpbaaaDoor
open Go Go.RowKit

/-- What a short text's reader answers. -/
def shortVal (o : Option Int) : Value := match o with
  | some t => .tuple #[.int .i64 t, .int .i64 0]
  | none => .tuple #[.int .i64 0, .int .i64 21]
/-- What a long text's reader answers. -/
def longVal (o : Option (Int × Int)) : Value := match o with
  | some (t, u) => .tuple #[.int .i64 t, .int .i64 u, .int .i64 0]
  | none => .tuple #[.int .i64 0, .int .i64 0, .int .i64 21]
theorem moment_is (y z : Int) (o : Option Int) (s : ByteArray) (w : World) (hs : s.size = 10) (hy1 : y ≤ 9999) (e : y = z) (ho : Hid (o = Pr.momO z s.data.toList 0)) :
    Calls Tryd.prog 61 #[.int .i64 y, .string s] w fun e w' => e = .returned (optVal o) ∧ ∃ n, w' = w.drewN n := by
  subst e
  rw [ho.out]
  exact moment_all y s w hs hy1
theorem moment_none (y z : Int) (s : ByteArray) (w : World) (hs : s.size = 10) (hy1 : y ≤ 9999) (e : y = z) (ho : Hid (none = Pr.momO z s.data.toList 0)) :
    Calls Tryd.prog 61 #[.int .i64 y, .string s] w fun e w' => e = .returned (.tuple #[.int .i64 0, .bool false]) ∧ ∃ n, w' = w.drewN n := moment_is y z none s w hs hy1 e ho
theorem moment_some (y z t : Int) (s : ByteArray) (w : World) (hs : s.size = 10) (hy1 : y ≤ 9999) (e : y = z) (ho : Hid (some t = Pr.momO z s.data.toList 0)) :
    Calls Tryd.prog 61 #[.int .i64 y, .string s] w fun e w' => e = .returned (.tuple #[.int .i64 t, .bool true]) ∧ ∃ n, w' = w.drewN n := moment_is y z (some t) s w hs hy1 e ho
theorem short_none {l : List UInt8} (h : ¬ (l.length = 13 ∧ Pr.lb l 12 = 90 ∧ 0 ≤ Pr.tw l 0)) : shortVal (Pr.shortO l) = .tuple #[.int .i64 0, .int .i64 21] := by
  unfold Pr.shortO; rw [if_neg h]; rfl
set_option maxHeartbeats 2000000 in
set_option maxRecDepth 100000 in
theorem parseShort_any (s : ByteArray) (w : World) (hs : s.size ≤ 1000000) :
    Calls Tryd.prog 38 #[.string s] w fun e w' => e = .returned (shortVal (Pr.shortO s.data.toList)) ∧ ∃ n, w' = w.drewN n := by
  have hsz : s.size = s.data.toList.length := Lib.size_eq s
  have hb := PlainAid.get_bt s
  have hl12 := lb_bt s 12
  by_cases h13 : s.size = 13
  · by_cases hz : PlainAid.bt s 12 = 90
    · have htw := Pr.tw_range s.data.toList 0
      have Htp : Hid (twP s.data.toList 0 = if Pr.tw s.data.toList 0 < 0 then -1048576 else Pr.tw s.data.toList 0) := rfl
      obtain ⟨x, hx⟩ : ∃ x, x = Pr.tw s.data.toList 0 := ⟨_, rfl⟩
      have Hm : Hid (∀ y, Pr.momO y (s.extract 2 12).data.toList 0 = Pr.momO y s.data.toList 2) := fun y => mom_ext y s 2
      have he : (s.extract 2 12).size = 10 := by simp; omega
      have hsl : s.size ≤ 13 := by omega
      have hsg : 13 ≤ s.size := by omega
      rw [← hx] at htw Htp
      have Hx := Lib.hid hx
      by_cases h0 : x < 0
      · have Hf := Lib.hid (short_none (l := s.data.toList) (by rw [← hx]; omega))
        have Htp2 : Hid (twP s.data.toList 0 = -1048576) := by show _ = _; rw [Htp.out, if_pos h0]
        have Hn : Hid (Pr.momO (-1048576) s.data.toList 2 = none) := by show _ = _; unfold Pr.momO Pr.atO; rw [if_neg (fun h => by have := h.1; omega)]
        have He := Lib.hid he
        clear hx hsz hl12 he
        go_enter Tryd.func38, Tryd.ntmps38
        go_wp2_with fail
        refine (two_q s 0 _ (by omega) (by omega)).mono ?_
        rintro _ w1 ⟨rfl, hq⟩
        rw [Htp2.out]
        have Hq1 := Lib.hid hq
        clear hq
        go_wp2_with fail
        refine (moment_all _ _ _ He.out (by omega)).mono ?_
        rintro _ w2 ⟨rfl, hq⟩
        rw [Hm.out, Hn.out]
        have Hq2 := Lib.hid (drewN_trans Hq1.out hq)
        clear hq Hq1
        unfold optVal
        go_wp2_with fail
        go_ret2
        exact ⟨by rw [Hf.out]; rfl, Hq2.out⟩
      · have Htp2 : Hid (twP s.data.toList 0 = x) := by show _ = _; rw [Htp.out, if_neg h0]
        have Ho : Hid (Pr.shortO s.data.toList = Pr.momO (if x < 50 then 2000 + x else 1900 + x) s.data.toList 2) := by
          show _ = _; unfold Pr.shortO; rw [if_pos ⟨by omega, by omega, by omega⟩, ← hx]
        have He := Lib.hid he
        clear hx hsz hl12 he
        obtain ⟨o, ho⟩ : ∃ o, o = Pr.momO (if x < 50 then 2000 + x else 1900 + x) s.data.toList 2 := ⟨_, rfl⟩
        have Ho1 : Hid (o = Pr.momO (if x < 50 then 2000 + x else 1900 + x) (s.extract 2 12).data.toList 0) := by show _ = _; rw [Hm.out]; exact ho
        have Ho2 : Hid (shortVal (Pr.shortO s.data.toList) = shortVal o) := by show _ = _; rw [Ho.out, ← ho]
        clear ho Ho
        by_cases h50 : x < 50
        all_goals
          go_enter Tryd.func38, Tryd.ntmps38
          go_wp2_with fail
          refine (two_q s 0 _ (by omega) (by omega)).mono ?_
          rintro _ w1 ⟨rfl, hq⟩
          rw [Htp2.out]
          have Hq1 := Lib.hid hq
          clear hq
          go_wp2_with fail
          refine (moment_is _ (if x < 50 then 2000 + x else 1900 + x) o _ _ He.out (by omega) (by split <;> omega) Ho1).mono ?_
          rintro _ w2 ⟨rfl, hq⟩
          have Hq2 := Lib.hid (drewN_trans Hq1.out hq)
          clear hq Hq1
          cases o with
          | none =>
            unfold optVal
            go_wp2_with fail
            go_ret2
            exact ⟨by rw [Ho2.out]; rfl, Hq2.out⟩
          | some t =>
            unfold optVal
            go_wp2_with fail
            go_ret2
            exact ⟨by rw [Ho2.out]; rfl, Hq2.out⟩
    · have Hf := Lib.hid (short_none (l := s.data.toList) (by omega))
      have hz1 : (PlainAid.bt s 12 == 90) = false := by simpa using hz
      have hz2 : (PlainAid.bt s 12 != 90) = true := by simpa using hz
      have hsl : s.size ≤ 13 := by omega
      have hsg : 13 ≤ s.size := by omega
      clear hz hl12 hsz h13
      go_enter Tryd.func38, Tryd.ntmps38
      go_wp2_with fail
      go_ret2
      exact ⟨by rw [Hf.out]; rfl, 0, rfl⟩
  · have Hf := Lib.hid (short_none (l := s.data.toList) (by omega))
    have hz1 : ((s.size : Int) == 13) = false := by simp; omega
    have hz2 : ((s.size : Int) != 13) = true := by simp; omega
    clear hb hl12 hsz h13
    go_enter Tryd.func38, Tryd.ntmps38
    go_wp2_with fail
    go_ret2
    exact ⟨by rw [Hf.out]; rfl, 0, rfl⟩
theorem long_none {l : List UInt8} (h : ¬ (Pr.Form l ∧ 0 ≤ Pr.tw l 0 ∧ 0 ≤ Pr.tw l 2)) : longVal (Pr.longO l) = .tuple #[.int .i64 0, .int .i64 0, .int .i64 21] := by
  unfold Pr.longO; rw [if_neg h]; rfl
/-- What the loop over six places has: the digits so far are some. -/
structure FI (l : List UInt8) (k n : Nat) : Prop where
  hd : ((Pr.frac l).take k).all Pr.isDig = true
  hn : n = Pr.val ((Pr.frac l).take k)
  lt : n < 10 ^ k
theorem frac_len {l : List UInt8} (h0 : 17 ≤ l.length) (h1 : l.length ≤ 22) : (Pr.frac l).length = 6 := by unfold Pr.frac; simp; omega
theorem frac_at {l : List UInt8} (h0 : 17 ≤ l.length) (h1 : l.length ≤ 22) {k : Nat} (hk : 15 + k < l.length - 1) : (((Pr.frac l).getD k 0).toNat : Int) = Pr.lb l (15 + k) := by
  unfold Pr.frac Pr.lb
  rw [List.getD_eq_getElem?_getD, List.getElem?_append_left (by simp; omega), List.getElem?_take, if_pos (by omega), List.getElem?_drop, ← List.getD_eq_getElem?_getD]
theorem frac_end {l : List UInt8} (h0 : 17 ≤ l.length) (h1 : l.length ≤ 22) {k : Nat} (hk : ¬ 15 + k < l.length - 1) (h6 : k < 6) : (Pr.frac l).getD k 0 = 48 := by
  have hl : ((l.drop 15).take (l.length - 16)).length = l.length - 16 := by simp; omega
  unfold Pr.frac
  rw [List.getD_eq_getElem?_getD, List.getElem?_append_right (by omega), List.getElem?_replicate, if_pos (by omega)]; rfl
theorem take_getD_succ (F : List UInt8) (k : Nat) (hk : k < F.length) : F.take (k + 1) = F.take k ++ [F.getD k 0] := by
  rw [List.take_succ_eq_append_getElem hk, List.getD_eq_getElem?_getD, List.getElem?_eq_getElem hk]; rfl
theorem FI.start (l : List UInt8) : FI l 0 0 := ⟨by simp, by simp [Pr.val], by simp⟩
theorem FI.next {l : List UInt8} {k n : Nat} (h : FI l k n) (hk : k < (Pr.frac l).length) (hd : 48 ≤ ((Pr.frac l).getD k 0).toNat ∧ ((Pr.frac l).getD k 0).toNat ≤ 57) : FI l (k + 1) (n * 10 + (((Pr.frac l).getD k 0).toNat - 48)) := by
  have e := take_getD_succ _ k hk
  refine ⟨?_, ?_, ?_⟩
  · rw [e, List.all_append, h.hd]; simp only [List.all_cons, List.all_nil, Bool.and_true, Bool.true_and, Pr.isDig, decide_eq_true_eq]; exact hd
  · rw [e, Pr.val_snoc, ← h.hn]
  · have := h.lt; rw [Nat.pow_succ]; omega
theorem FI.bad {l : List UInt8} {k : Nat} (hk : k < (Pr.frac l).length) (hd : ¬ (48 ≤ ((Pr.frac l).getD k 0).toNat ∧ ((Pr.frac l).getD k 0).toNat ≤ 57)) : ¬ (Pr.frac l).all Pr.isDig = true := by
  intro h
  have h1 := List.all_eq_true.1 h ((Pr.frac l)[k]) (List.getElem_mem hk)
  rw [List.getD_eq_getElem?_getD, List.getElem?_eq_getElem hk] at hd
  simp only [Pr.isDig, decide_eq_true_eq] at h1
  exact hd h1
theorem two_is (s : ByteArray) (k : Nat) (a : Int) (w : World) (hs : s.size ≤ 1000) (h1 : k + 1 < s.size) (ha : Hid (a = twP s.data.toList k)) :
    Calls Tryd.prog 60 #[.string s, .int .i64 k] w fun e w' => e = .returned (.int .i64 a) ∧ ∃ n, w' = w.drewN n := by
  rw [ha.out]; exact two_q s k w hs h1
def longM (o : Option Int) (u : Int) : Value := match o with
  | some t => .tuple #[.int .i64 t, .int .i64 u, .int .i64 0]
  | none => .tuple #[.int .i64 0, .int .i64 0, .int .i64 21]
theorem two_0 (s : ByteArray) (a : Int) (w : World) (hs : s.size ≤ 1000) (h1 : 1 < s.size) (ha : Hid (a = twP s.data.toList 0)) :
    Calls Tryd.prog 60 #[.string s, .int .i64 0] w fun e w' => e = .returned (.int .i64 a) ∧ ∃ n, w' = w.drewN n := two_is s 0 a w hs h1 ha
theorem two_2 (s : ByteArray) (a : Int) (w : World) (hs : s.size ≤ 1000) (h1 : 3 < s.size) (ha : Hid (a = twP s.data.toList 2)) :
    Calls Tryd.prog 60 #[.string s, .int .i64 2] w fun e w' => e = .returned (.int .i64 a) ∧ ∃ n, w' = w.drewN n := two_is s 2 a w hs h1 ha
/-- What is left of a long text, its form told: the moment. -/
theorem long_tail {l : List UInt8} {a b u : Int} {o : Option Int} (hF : Pr.Form l) (ha : a = twP l 0) (hb : b = twP l 2) (ho : o = Pr.momO (a * 100 + b) l 4) (hu : u = if l.length = 15 then 0 else (Pr.val (Pr.frac l) : Int)) :
    longVal (Pr.longO l) = longM o u := by
  have r0 := Pr.tw_range l 0
  have r2 := Pr.tw_range l 2
  unfold twP at ha hb
  by_cases h : 0 ≤ Pr.tw l 0 ∧ 0 ≤ Pr.tw l 2
  · rw [if_neg (by omega)] at ha hb
    unfold Pr.longO
    rw [if_pos ⟨hF, h.1, h.2⟩, ← ha, ← hb, ← ho]
    subst hu
    cases o <;> rfl
  · have hn : a * 100 + b < 0 := by
      by_cases h0 : Pr.tw l 0 < 0
      · rw [if_pos h0] at ha
        split at hb <;> omega
      · rw [if_pos (by omega)] at hb
        rw [if_neg h0] at ha
        omega
    have ho2 : o = none := by
      rw [ho]; unfold Pr.momO Pr.atO; rw [if_neg (fun h => by have := h.1; omega)]
    subst ho2
    exact long_none (fun hh => h ⟨hh.2.1, hh.2.2⟩)
set_option maxHeartbeats 2000000 in
set_option maxRecDepth 100000 in
theorem parseLong_15 (s : ByteArray) (w : World) (hlo : ¬ s.size < 15) (hhi : ¬ 22 < s.size) (hz : PlainAid.bt s (s.size - 1) = 90) (h15 : s.size = 15) :
    Calls Tryd.prog 40 #[.string s] w fun e w' => e = .returned (longVal (Pr.longO s.data.toList)) ∧ ∃ n, w' = w.drewN n := by
  have hsz : s.size = s.data.toList.length := Lib.size_eq s
  have hb := PlainAid.get_bt s
  have e1 := lb_bt s (s.size - 1)
  have e2 := lb_bt s (s.size - 2)
  have e14 := lb_bt s 14
  have ra := twP_range s.data.toList 0
  have rb := twP_range s.data.toList 2
  obtain ⟨a, ha⟩ : ∃ a, a = twP s.data.toList 0 := ⟨_, rfl⟩
  obtain ⟨b, hbb⟩ : ∃ b, b = twP s.data.toList 2 := ⟨_, rfl⟩
  obtain ⟨o, ho⟩ : ∃ o, o = Pr.momO (a * 100 + b) s.data.toList 4 := ⟨_, rfl⟩
  have Ho : Hid (o = Pr.momO (a * 100 + b) (s.extract 4 14).data.toList 0) := by show _ = _; rw [mom_ext _ s 4]; exact ho
  have he : (s.extract 4 14).size = 10 := by simp; omega
  have He := Lib.hid he
  have Ha := Lib.hid ha
  have Hb := Lib.hid hbb
  have HO := Lib.hid ho
  rw [← ha] at ra
  rw [← hbb] at rb
  obtain ⟨ra0, ra1⟩ := ra
  obtain ⟨rb0, rb1⟩ := rb
  have q0 : s.size ≤ 1000 := by omega
  have q1 : 1 < s.size := by omega
  have q3 : 3 < s.size := by omega
  have q9 : a * 100 + b ≤ 9999 := by omega
  have q14 : (14 : Int) ≤ (s.size : Int) := by omega
  have qw1 : IntKind.i64.wrap (a * 100) = a * 100 := IntWalk.i64_in _ (by omega)
  have qw2 : IntKind.i64.wrap (a * 100 + b) = a * 100 + b := IntWalk.i64_in _ (by omega)
  clear he ha hbb ho
  have Hf : Hid (longVal (Pr.longO s.data.toList) = longM o 0) := by
    show _ = _
    refine long_tail ⟨by omega, by omega, by omega, ?_, fun h => by omega⟩ Ha.out Hb.out HO.out (by rw [if_pos (by omega)])
    rw [← hsz, e1]; exact hz
  have hg : 15 ≤ s.size := by omega
  have hl : s.size ≤ 15 := by omega
  clear h15 hsz e1 e2 e14
  go_enter Tryd.func40, Tryd.ntmps40
  go_wp2_with fail
  cases o with
  | none =>
    go_quiet (first | (go_at_call 60; first | (with_reducible exact Calls.quiet_of (two_0 s a _ q0 q1 Ha)) | (with_reducible exact Calls.quiet_of (two_2 s b _ q0 q3 Hb))) | (go_at_call 61; exact Calls.quiet_of (moment_none _ (a * 100 + b) _ _ He.out q9 rfl Ho)))
    go_wp2_with fail
    go_ret3
    exact ⟨by rw [Hf.out]; rfl, _, rfl⟩
  | some t =>
    go_quiet (first | (go_at_call 60; first | (with_reducible exact Calls.quiet_of (two_0 s a _ q0 q1 Ha)) | (with_reducible exact Calls.quiet_of (two_2 s b _ q0 q3 Hb))) | (go_at_call 61; exact Calls.quiet_of (moment_some _ (a * 100 + b) t _ _ He.out q9 rfl Ho)))
    go_wp2_with fail
    go_ret3
    exact ⟨by rw [Hf.out]; rfl, _, rfl⟩
end Go.Proofs.YtehdbceemdpbaaaDoor
