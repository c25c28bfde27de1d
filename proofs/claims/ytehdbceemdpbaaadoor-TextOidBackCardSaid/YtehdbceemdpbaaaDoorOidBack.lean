/- The walk of the statement that texts and bytes of object identifiers go there and back. -/
import Derived.Test.YtehdbceemdpbaaaDoorBytes
namespace Go.Proofs.YtehdbceemdpbaaaDoor
open Go Go.RowKit

theorem hi_lt : ∀ (f m : Nat), m < 128 ^ f → m < 128 ^ (Od.hiF f m).length
  | 0, m, h => by simpa [Od.hiF] using h
  | f + 1, m, h => by
    unfold Od.hiF
    by_cases h0 : m = 0
    · rw [if_pos h0]; simp [h0]
    · rw [if_neg h0, List.length_append]
      have := hi_lt f (m / 128) (by rw [Nat.pow_succ] at h; omega)
      show m < 128 ^ ((Od.hiF f (m / 128)).length + 1)
      rw [Nat.pow_succ]; omega
theorem b128_lt {g : Nat} (h : g < Od.top) : g < 128 ^ (Od.b128 g).length := by
  unfold Od.top at h
  have := hi_lt 10 (g / 128) (by omega)
  unfold Od.b128
  rw [List.length_append]
  show g < 128 ^ ((Od.hiF 10 (g / 128)).length + 1)
  rw [Nat.pow_succ]; omega
theorem b128_pos (n : Nat) : 1 ≤ (Od.b128 n).length := by unfold Od.b128; simp
theorem dgs_b128 {g n : Nat} (h : g < Od.top) (hn : n ≤ g) : (Dig.dgs n 1).length ≤ 3 * (Od.b128 g).length := by
  have h1 := b128_lt h
  have h2 := b128_pos g
  have h3 : 128 ^ (Od.b128 g).length ≤ 1000 ^ (Od.b128 g).length := Nat.pow_le_pow_left (by decide) _
  refine dgs_len_le ?_ (by omega)
  rw [Nat.pow_mul, show (10 : Nat) ^ 3 = 1000 by decide]; omega
theorem tail_len : ∀ (l : List Nat), (∀ g ∈ l, g < Od.top) → (Od.textTail l).length ≤ 4 * (l.flatMap Od.b128).length
  | [], _ => by simp [Od.textTail]
  | g :: l, h => by
    have h1 := tail_len l (fun x hx => h x (by simp [hx]))
    have h2 := dgs_b128 (h g (by simp)) (Nat.le_refl g)
    have h3 := b128_pos g
    simp only [Od.textTail, List.length_cons, List.length_append, List.flatMap_cons]; omega
theorem decO_len {b t : List UInt8} (h : Od.decO b = some t) : t.length ≤ 4 * b.length + 1 := by
  obtain ⟨g, gs, hd, rfl⟩ := Od.decO_some h
  obtain ⟨h1, h0⟩ := Od.dec_sound b 0 _ (by decide) hd
  rw [Od.hi_zero, List.nil_append] at h1
  have h2 := tail_len gs (fun x hx => h0 x (by simp [hx]))
  have h3 := dgs_b128 (n := g - 40 * Od.fst2 g) (h0 g (by simp)) (by omega)
  have h4 := b128_pos g
  have h5 := dgs_len_le (n := Od.fst2 g) (j := 1) (by unfold Od.fst2; split <;> omega) (by omega)
  have h6 := congrArg List.length h1
  simp only [List.flatMap_cons, List.length_append] at h6
  simp only [Od.textOf, List.length_cons, List.length_append]; omega
theorem enc_len {s b : List UInt8} (h : Od.enc s = some b) : b.length ≤ 22 + 11 * s.length := by
  unfold Od.enc at h
  cases hn : Od.numsOf (Od.parts 46 s) with
  | none => rw [hn] at h; cases h
  | some l =>
    rw [hn] at h
    replace h : (if Od.oidOk l = true then some (Od.bytesOf l) else none) = some b := h
    split at h
    · injection h with h
      subst h
      have h1 := (numsOf_top hn).1
      have h2 := Od.parts_length_le 46 s
      have h3 := Od.b128_length (40 * l.getD 0 0 + l.getD 1 0)
      have h4 : ∀ l : List Nat, (l.flatMap Od.b128).length ≤ 11 * l.length := by
        intro l
        induction l with
        | nil => simp
        | cons a l ih => have := Od.b128_length a; simp only [List.flatMap_cons, List.length_append, List.length_cons]; omega
      have h5 := h4 (l.drop 2)
      unfold Od.bytesOf
      rw [List.length_append]
      rw [List.length_drop] at h5
      omega
    · cases h
set_option maxRecDepth 100000 in
set_option maxHeartbeats 4000000 in
theorem textOidBack_walk (s : ByteArray) (A : Option Addr) (c : Nat) (b : List UInt8) (w : World) (hs : s.size ≤ 9223372036854775807) (hr : Reads w w.heap.size 1 A b.length (Lib.byteCells b)) (hn : b.length ≤ 9223372036854775807) (hT : Lib.Utf8Tabs 0 1 w) :
    Calls Tryd.prog 11 #[.string s, .slice A b.length c] w fun e w' => e = .returned (.bool true) ∧ Below w.heap.size w w' := by
  have HT := Lib.hid hT
  have HR := Lib.hid hr
  clear hT hr
  by_cases hl : 2000 < s.size
  · go_enter Tryd.func11, Tryd.ntmps11
    go_wp2_with fail
    refine (long_yes' s _ hs hl).mono ?_
    rintro _ w1 ⟨rfl, rfl⟩
    go_wp2_with fail
    refine (known_any _ HT.out).mono ?_
    rintro _ w7 ⟨rfl, hb⟩
    go_wp2_with fail
    go_ret
    exact ⟨rfl, hb⟩
  by_cases hl2 : 500 < b.length
  · go_enter Tryd.func11, Tryd.ntmps11
    go_wp2_with fail
    refine (long_no' s _ (by omega)).mono ?_
    rintro _ w1 ⟨rfl, rfl⟩
    go_wp2_with fail
    refine (known_any _ HT.out).mono ?_
    rintro _ w7 ⟨rfl, hb⟩
    go_wp2_with fail
    go_ret
    exact ⟨rfl, hb⟩
  have hss : s.size = s.data.toList.length := Lib.size_eq s
  have Hss := Lib.hid hss
  clear hss
  go_enter Tryd.func11, Tryd.ntmps11
  go_wp2_with fail
  refine (long_no' s _ (by omega)).mono ?_
  rintro _ w1 ⟨rfl, rfl⟩
  go_wp2_with fail
  refine (oidBytes_any s _ (by omega)).mono ?_
  intro e w1 h1
  unfold OidPost at h1
  have H1 := Lib.hid h1
  clear h1
  cases he : Od.enc s.data.toList with
  | none =>
    have h1 := H1.out
    rw [he] at h1
    obtain ⟨rfl, hb⟩ := h1
    have Hb1 := Lib.hid hb
    clear hb he H1
    go_wp2_with fail
    refine (oidText_any A c b _ ((HR.out.below Hb1.out).more Hb1.out.size) (by omega)).mono ?_
    rintro _ w3 ⟨rfl, hb⟩
    have Hb3 := Lib.hid (Hb1.out.trans (hb.mono Hb1.out.size))
    clear hb Hb1
    cases hd : Od.decO b with
    | none =>
      have Hv : Hid (txtVal (none : Option (List UInt8)) = .tuple #[.string ⟨#[]⟩, .int .i64 20]) := rfl
      rw [Hv.out]
      clear hd
      go_wp2_with fail
      refine (known_any _ (tabs_iter HT.out Hb3.out)).mono ?_
      rintro _ w9 ⟨rfl, hb⟩
      have Hb9 := Lib.hid (Hb3.out.trans (hb.mono Hb3.out.size))
      clear hb Hb3
      go_wp2_with fail
      go_ret
      exact ⟨rfl, Hb9.out⟩
    | some t =>
      obtain ⟨x, hx⟩ : ∃ x : ByteArray, x = ⟨t.toArray⟩ := ⟨_, rfl⟩
      have hxl : x.data.toList = t := by rw [hx]
      have hxs : x.size ≤ 10000 := by rw [hx]; have h2 := decO_len hd; show t.length ≤ _; omega
      have Hv : Hid (txtVal (some t) = .tuple #[.string x, .int .i64 0]) := by show _ = _; rw [hx]; rfl
      have He : Hid (Od.enc x.data.toList = some b) := by show _ = _; rw [hxl]; exact Od.enc_decO hd
      rw [Hv.out]
      clear hx hxl hd
      go_wp2_with fail
      refine (oidBytes_any x _ hxs).mono ?_
      intro e w4 h4
      unfold OidPost at h4
      rw [He.out] at h4
      obtain ⟨v4, rfl, hrow, hb⟩ := h4
      have Hb4 := Lib.hid (Hb3.out.trans (hb.mono Hb3.out.size))
      have Hrow := Lib.hid hrow
      clear hb Hb3 hrow
      go_wp2_with fail
      refine (same_yes _ _ b _ (own_str Hrow.out) ⟨_, A, c, rfl, HR.out.below Hb4.out⟩).mono ?_
      rintro _ w5 ⟨rfl, rfl⟩
      go_wp2_with fail
      refine (known_any _ (tabs_iter HT.out Hb4.out)).mono ?_
      rintro _ w9 ⟨rfl, hb⟩
      have Hb9 := Lib.hid (Hb4.out.trans (hb.mono Hb4.out.size))
      clear hb Hb4
      go_wp2_with fail
      go_ret
      exact ⟨rfl, Hb9.out⟩
  | some out =>
    have h1 := H1.out
    rw [he] at h1
    obtain ⟨v, rfl, hrow, hb⟩ := h1
    have Hb0 := Lib.hid hb
    obtain ⟨A1, c1, rfl, hr1⟩ := reads_own hrow
    have Hr1 := Lib.hid hr1
    have hol : out.length ≤ 40000 := by have h2 := enc_len he; have := Hss.out; omega
    have Hd : Hid (txtVal (Od.decO out) = .tuple #[.string s, .int .i64 0]) := by
      show _ = _
      rw [Od.decO_enc he]
      show Value.tuple #[.string ⟨s.data.toList.toArray⟩, .int .i64 0] = _
      have eb : (⟨s.data.toList.toArray⟩ : ByteArray) = s := by cases s; simp
      rw [eb]
    clear hb he H1 hrow hr1
    go_wp2_with fail
    refine (oidText_any A1 c1 out _ Hr1.out hol).mono ?_
    rintro _ w2 ⟨rfl, hb⟩
    rw [Hd.out]
    have Hb1 := Lib.hid (Hb0.out.trans (hb.mono Hb0.out.size))
    clear hb Hb0 Hr1
    go_wp2_with fail
    refine (oidText_any A c b _ ((HR.out.below Hb1.out).more Hb1.out.size) (by omega)).mono ?_
    rintro _ w3 ⟨rfl, hb⟩
    have Hb3 := Lib.hid (Hb1.out.trans (hb.mono Hb1.out.size))
    clear hb Hb1
    cases hd : Od.decO b with
    | none =>
      have Hv : Hid (txtVal (none : Option (List UInt8)) = .tuple #[.string ⟨#[]⟩, .int .i64 20]) := rfl
      rw [Hv.out]
      clear hd
      go_wp2_with fail
      refine (known_any _ (tabs_iter HT.out Hb3.out)).mono ?_
      rintro _ w9 ⟨rfl, hb⟩
      have Hb9 := Lib.hid (Hb3.out.trans (hb.mono Hb3.out.size))
      clear hb Hb3
      go_wp2_with fail
      go_ret
      exact ⟨rfl, Hb9.out⟩
    | some t =>
      obtain ⟨x, hx⟩ : ∃ x : ByteArray, x = ⟨t.toArray⟩ := ⟨_, rfl⟩
      have hxl : x.data.toList = t := by rw [hx]
      have hxs : x.size ≤ 10000 := by rw [hx]; have h2 := decO_len hd; show t.length ≤ _; omega
      have Hv : Hid (txtVal (some t) = .tuple #[.string x, .int .i64 0]) := by show _ = _; rw [hx]; rfl
      have He : Hid (Od.enc x.data.toList = some b) := by show _ = _; rw [hxl]; exact Od.enc_decO hd
      rw [Hv.out]
      clear hx hxl hd
      go_wp2_with fail
      refine (oidBytes_any x _ hxs).mono ?_
      intro e w4 h4
      unfold OidPost at h4
      rw [He.out] at h4
      obtain ⟨v4, rfl, hrow, hb⟩ := h4
      have Hb4 := Lib.hid (Hb3.out.trans (hb.mono Hb3.out.size))
      have Hrow := Lib.hid hrow
      clear hb Hb3 hrow
      go_wp2_with fail
      refine (same_yes _ _ b _ (own_str Hrow.out) ⟨_, A, c, rfl, HR.out.below Hb4.out⟩).mono ?_
      rintro _ w5 ⟨rfl, rfl⟩
      go_wp2_with fail
      refine (known_any _ (tabs_iter HT.out Hb4.out)).mono ?_
      rintro _ w9 ⟨rfl, hb⟩
      have Hb9 := Lib.hid (Hb4.out.trans (hb.mono Hb4.out.size))
      clear hb Hb4
      go_wp2_with fail
      go_ret
      exact ⟨rfl, Hb9.out⟩
end Go.Proofs.YtehdbceemdpbaaaDoor
