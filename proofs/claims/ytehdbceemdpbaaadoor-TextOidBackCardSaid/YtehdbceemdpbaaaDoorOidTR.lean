/- The walk of OidText of the reference: a text is made, and its bytes held against those that came in. -/
import Derived.Test.YtehdbceemdpbaaaDoorOidT
import Derived.Test.YtehdbceemdpbaaaDoorOidR
namespace Go.Proofs.YtehdbceemdpbaaaDoor
open Go Go.RowKit

theorem hi_length : ∀ (f m : Nat), m < 128 ^ f → (Od.hiF 10 m).length ≤ 10 ∧ (f ≤ 10 → (Od.hiF 10 m).length ≤ f)
  | f, m, h => by
    have h1 : ∀ g n, (Od.hiF g n).length ≤ g := by
      intro g
      induction g with
      | zero => intro n; simp [Od.hiF]
      | succ g ih =>
        intro n
        unfold Od.hiF
        split
        · simp
        · have := ih (n / 128); simp; omega
    refine ⟨h1 10 m, fun hf => ?_⟩
    rw [Od.hi_fuel 10 f m (Nat.lt_of_lt_of_le h (Nat.pow_le_pow_right (by decide) hf)) h]
    exact h1 f m
theorem dgsF_len_le : ∀ (f n k j : Nat), n < 10 ^ j → k ≤ j → (Dig.dgsF f n k).length ≤ j
  | 0, n, k, j, _, _ => by simp [Dig.dgsF]
  | f + 1, n, k, j, h, hk => by
    by_cases hh : n = 0 ∧ k = 0
    · rw [Dig.dgsF_stop _ _ _ hh]; simp
    · have hj : 1 ≤ j := by
        rcases Nat.eq_zero_or_pos j with h0 | h0
        · subst h0; simp at h; omega
        · exact h0
      obtain ⟨i, rfl⟩ : ∃ i, j = i + 1 := ⟨j - 1, by omega⟩
      rw [Dig.dgsF_step _ _ _ hh, List.length_append]
      have := dgsF_len_le f (n / 10) (k - 1) i (by rw [Nat.pow_succ] at h; omega) (by omega)
      simp; omega
theorem dgs_len_le {n j : Nat} (h : n < 10 ^ j) (hj : 1 ≤ j) : (Dig.dgs n 1).length ≤ j := dgsF_len_le 20 n 1 j h hj
/-- What the reference has read: whole numbers, n of the one at hand; if the bytes are some text's, they go on so. -/
structure OR (b : List UInt8) (k n long : Nat) (gs : List Nat) : Prop where
  top : n < Od.top
  all : ∀ g ∈ gs, g < Od.top
  len : gs.length ≤ k
  lt : n < 128 ^ long
  tl : (Od.textOf gs).length + 4 * long ≤ 4 * k + 1
  d : ∀ r, Od.dec 0 b = some r → ∃ r', r = gs ++ r' ∧ Od.dec n (b.drop k) = some r' ∧ long = (Od.hiF 10 n).length
theorem OR.start (b : List UInt8) : OR b 0 0 0 [] := ⟨by decide, by simp, by simp, by simp, by simp [Od.textOf], fun r h => ⟨r, rfl, h, by simp [Od.hi_zero]⟩⟩
theorem OR.stop {b : List UInt8} {k n long : Nat} {gs : List Nat} (h : OR b k n long gs) (hk : k < b.length) (hb : 9 < long + 1 ∨ Od.top ≤ n * 128 + b[k].toNat % 128) : Od.decO b = none := by
  unfold Od.decO
  cases hd : Od.dec 0 b with
  | none => rfl
  | some r =>
    exfalso
    obtain ⟨r', _, h2, h3⟩ := h.d r hd
    rw [List.drop_eq_getElem_cons hk] at h2
    by_cases hx : (n = 0 ∧ b[k].toNat = 128) ∨ 72057594037927935 < n
    · rw [Od.dec_bad hx] at h2; cases h2
    · have h4 := (hi_length 8 n (by omega)).2 (by omega)
      unfold Od.top at hb
      omega
theorem OR.more {b : List UInt8} {k n long : Nat} {gs : List Nat} (h : OR b k n long gs) (hk : k < b.length) (ht : n * 128 + b[k].toNat % 128 < Od.top) (hc : 128 ≤ b[k].toNat) : OR b (k + 1) (n * 128 + b[k].toNat % 128) (long + 1) gs := by
  refine ⟨ht, h.all, by have := h.len; omega, by have := h.lt; rw [Nat.pow_succ]; omega, by have := h.tl; omega, fun r hr => ?_⟩
  obtain ⟨r', h1, h2, h3⟩ := h.d r hr
  rw [List.drop_eq_getElem_cons hk] at h2
  by_cases hx : (n = 0 ∧ b[k].toNat = 128) ∨ 72057594037927935 < n
  · rw [Od.dec_bad hx] at h2; cases h2
  · rw [Od.dec_more hx hc] at h2
    exact ⟨r', h1, h2, by rw [Od.hi_step hx hc, List.length_append, h3]; rfl⟩
theorem OR.last {b : List UInt8} {k n long : Nat} {gs : List Nat} (h : OR b k n long gs) (hk : k < b.length) (ht : n * 128 + b[k].toNat % 128 < Od.top) (hc : b[k].toNat < 128) : OR b (k + 1) 0 0 (gs ++ [n * 128 + b[k].toNat % 128]) := by
  refine ⟨by decide, ?_, by have := h.len; simp; omega, by simp, ?_, fun r hr => ?_⟩
  · intro g hg
    rcases List.mem_append.1 hg with hg | hg
    · exact h.all g hg
    · simp at hg; omega
  · have h1 := h.lt
    have h2 := h.tl
    have hm : n * 128 + b[k].toNat % 128 < 10 ^ (3 * (long + 1)) := by
      have h3 : 128 ^ (long + 1) ≤ 1000 ^ (long + 1) := Nat.pow_le_pow_left (by decide) _
      rw [Nat.pow_mul, show (10 : Nat) ^ 3 = 1000 by decide]
      rw [Nat.pow_succ] at h3 ⊢
      rw [Nat.pow_succ] at h3
      omega
    cases gs with
    | nil =>
      have e : Od.textOf ([] ++ [n * 128 + b[k].toNat % 128]) = Dig.dgs (Od.fst2 (n * 128 + b[k].toNat % 128)) 1 ++ 46 :: Dig.dgs (n * 128 + b[k].toNat % 128 - 40 * Od.fst2 (n * 128 + b[k].toNat % 128)) 1 := by simp [Od.textOf, Od.textTail]
      have h4 := dgs_len_le (n := Od.fst2 (n * 128 + b[k].toNat % 128)) (j := 1) (by unfold Od.fst2; split <;> omega) (by omega)
      have h5 := dgs_len_le (n := n * 128 + b[k].toNat % 128 - 40 * Od.fst2 (n * 128 + b[k].toNat % 128)) (j := 3 * (long + 1)) (by omega) (by omega)
      rw [e, List.length_append, List.length_cons]
      simp [Od.textOf] at h2
      omega
    | cons g gs =>
      have h5 := dgs_len_le (n := n * 128 + b[k].toNat % 128) (j := 3 * (long + 1)) hm (by omega)
      rw [Od.textOf_snoc (by simp), List.length_append, List.length_cons]
      omega
  · obtain ⟨r', h1, h2, h3⟩ := h.d r hr
    rw [List.drop_eq_getElem_cons hk] at h2
    by_cases hx : (n = 0 ∧ b[k].toNat = 128) ∨ 72057594037927935 < n
    · rw [Od.dec_bad hx] at h2; cases h2
    · rw [Od.dec_last hx hc] at h2
      cases hd : Od.dec 0 (b.drop (k + 1)) with
      | none => rw [hd] at h2; cases h2
      | some q =>
        rw [hd] at h2
        simp only [Option.some.injEq] at h2
        exact ⟨q, by rw [h1, ← h2]; simp, hd ▸ rfl, by simp [Od.hi_zero]⟩
/-- At the end: the text's bytes are those that came in, or there is no text. -/
theorem OR.fin {b : List UInt8} {k n long : Nat} {gs : List Nat} (h : OR b k n long gs) (hk : b.length ≤ k) : Od.decO b = if Od.enc (Od.textOf gs) = some b then some (Od.textOf gs) else none := by
  cases gs with
  | nil =>
    have e : Od.enc (Od.textOf []) = none := by decide +kernel
    rw [e, if_neg (by simp)]
    unfold Od.decO
    cases hd : Od.dec 0 b with
    | none => rfl
    | some r =>
      obtain ⟨r', h1, h2, _⟩ := h.d r hd
      rw [List.drop_of_length_le hk] at h2
      unfold Od.dec at h2
      split at h2
      · injection h2 with h2
        subst h2
        rw [h1]; rfl
      · cases h2
  | cons g gs =>
    have he := Od.enc_textOf h.all
    by_cases hb : (g :: gs).flatMap Od.b128 = b
    · rw [he, hb, if_pos rfl]
      have hc := Od.dec_complete (g :: gs) h.all
      rw [hb] at hc
      unfold Od.decO
      rw [hc]
    · rw [he, if_neg (fun e => hb (Option.some.inj e))]
      unfold Od.decO
      cases hd : Od.dec 0 b with
      | none => rfl
      | some r =>
        exfalso
        obtain ⟨r', h1, h2, _⟩ := h.d r hd
        rw [List.drop_of_length_le hk] at h2
        unfold Od.dec at h2
        split at h2
        · injection h2 with h2
          subst h2
          have h3 := (Od.dec_sound b 0 r (by decide) hd).1
          rw [Od.hi_zero, List.nil_append, h1, List.append_nil] at h3
          exact hb h3.symm
        · cases h2
theorem refdigits_of (a k : Int) (n j : Nat) (w : World) (ha : a = n) (hk : k = j) (h1 : n ≤ 9223372036854775807) (hj : j ≤ 20) :
    Calls Tryd.prog 53 #[.int .u64 a, .int .i64 k] w fun e w' => e = .returned (.string ⟨(Dig.dgs n j).toArray⟩) ∧ Below w.heap.size w w' := by
  subst ha hk
  exact refdigits_any n j w (by omega) hj
theorem dstr_size (n : Nat) : (⟨(Dig.dgs n 1).toArray⟩ : ByteArray).size ≤ 20 := Dig.dgs_length_le n 1
theorem fst2_lt {g : Nat} (h : g < 80) : Od.fst2 g = g / 40 := by unfold Od.fst2; split <;> omega
theorem fst2_ge {g : Nat} (h : ¬ g < 80) : Od.fst2 g = 2 := by unfold Od.fst2; split <;> omega
theorem text_nil {gs : List Nat} (h : gs ≠ []) : ¬ (⟨(Od.textOf gs).toArray⟩ : ByteArray).size = 0 := by
  cases gs with
  | nil => exact absurd rfl h
  | cons g gs => simp [ByteArray.size, Od.textOf]
theorem txt_some {o : Option (List UInt8)} {t : List UInt8} (h : o = some t) : txtVal o = .tuple #[.string ⟨t.toArray⟩, .int .i64 0] := by subst h; rfl
theorem txt_none {o : Option (List UInt8)} (h : o = none) : txtVal o = .tuple #[.string ⟨#[]⟩, .int .i64 20] := by subst h; rfl
set_option maxHeartbeats 4000000 in
set_option maxRecDepth 100000 in
theorem refoidText_any (A : Option Addr) (c : Nat) (b : List UInt8) (w : World) (hr : Reads w w.heap.size 1 A b.length (Lib.byteCells b)) (hlen : b.length ≤ 2000) :
    Calls Tryd.prog 37 #[.slice A b.length c] w fun e w' => e = .returned (txtVal (Od.decO b)) ∧ Below w.heap.size w w' := by
  have HR := Lib.hid hr
  clear hr
  go_enter Tryd.func37, Tryd.ntmps37
  go_wp2_with fail
  go_loopw [4, 5, 6, 7] (fun t4 t5 t6 t7 wr => ∃ (k n long : Nat) (gs : List Nat), t4 = .string ⟨(Od.textOf gs).toArray⟩ ∧ t5 = .int .u64 n ∧ t6 = .int .i64 long ∧ t7 = .int .i64 k ∧ k ≤ b.length ∧ long ≤ 9 ∧ Below w.heap.size w wr ∧ Hid (OR b k n long gs)) (fun _ _ _ t7 _ => b.length - (intOf t7).toNat)
  case atStart => exact ⟨0, 0, 0, [], rfl, rfl, rfl, rfl, Nat.zero_le _, by omega, Below.refl _ _, OR.start b⟩
  case round =>
    obtain ⟨k, n, long, gs, rfl, rfl, rfl, rfl, hk, hlong, hbl, HO⟩ := hrel
    have hz := hbl.size
    have htl := HO.out.tl
    have hnt : n ≤ 9223372036854775807 := by have h1 := HO.out.top; unfold Od.top at h1; omega
    by_cases hlt : k < b.length
    · obtain ⟨ad, rfl, _, hcl⟩ := (HR.out.below hbl).2 (by omega)
      have hc1 : wr.cell? (ad.add k) = some (.int .u8 (b[k].toNat : Int)) := hcl k _ (by simp [Lib.byteCells, List.getElem?_eq_getElem hlt])
      have h8' : b[k].toNat < 256 := b[k].toNat_lt
      have Hbl := Lib.hid hbl
      clear hcl hbl
      by_cases h9 : long = 9
      · have Hf := Lib.hid (txt_none (HO.out.stop hlt (.inl (by omega))))
        subst h9
        go_wp2_with fail
        go_ret2
        exact ⟨by rw [Hf.out]; rfl, Hbl.out⟩
      · have hl8 : long ≤ 8 := by omega
        have hn56 : n ≤ 72057594037927935 := by
          have h1 := HO.out.lt
          have h2 : 128 ^ long ≤ 128 ^ 8 := Nat.pow_le_pow_right (by decide) hl8
          omega
        clear h9 hlong hnt
        have hm : (n : Int) * 128 + (b[k].toNat : Int) % 128 = ((n * 128 + b[k].toNat % 128 : Nat) : Int) := by omega
        have ht : n * 128 + b[k].toNat % 128 < Od.top := by unfold Od.top; omega
        by_cases hhi : 128 ≤ b[k].toNat
        · have Hn := Lib.hid (HO.out.more hlt ht hhi)
          clear hm ht
          go_wp2_with fail
          go_roundw
          case rel => exact ⟨k + 1, n * 128 + b[k].toNat % 128, long + 1, gs, rfl, by go_num, by go_num, by go_num, by omega, by omega, Hbl.out, Hn⟩
          case measure => simp [intOf]; omega
        · have Hn := Lib.hid (HO.out.last hlt ht (by omega))
          have hm63 : n * 128 + b[k].toNat % 128 ≤ 9223372036854775807 := by omega
          obtain ⟨m, hmm⟩ : ∃ m : Nat, m = n * 128 + b[k].toNat % 128 := ⟨_, rfl⟩
          have Hm : Hid ((n : Int) * 128 + (b[k].toNat : Int) % 128 = (m : Int)) := by show _ = _; rw [hmm]; exact hm
          rw [← hmm] at Hn hm63
          clear hm ht hmm
          obtain ⟨x, hx⟩ : ∃ x : ByteArray, x = ⟨(Od.textOf gs).toArray⟩ := ⟨_, rfl⟩
          have hxs : x.size ≤ 100000 := by rw [hx]; show (Od.textOf gs).length ≤ _; omega
          rw [← hx]
          by_cases hg : gs = []
          · have hem := isEmpty_of.1 (show x.size = 0 by rw [hx, hg]; rfl)
            subst hg
            by_cases h80 : m < 80
            · have h80i : (m : Int) < 80 := by omega
              obtain ⟨y1, hy1⟩ : ∃ y : ByteArray, y = ⟨(Dig.dgs (m / 40) 1).toArray⟩ := ⟨_, rfl⟩
              obtain ⟨y2, hy2⟩ : ∃ y : ByteArray, y = ⟨(Dig.dgs (m - 40 * (m / 40)) 1).toArray⟩ := ⟨_, rfl⟩
              have hys1 : y1.size ≤ 20 := by rw [hy1]; exact dstr_size _
              have hys2 : y2.size ≤ 20 := by rw [hy2]; exact dstr_size _
              have Hy1 := Lib.hid hy1
              have Hy2 := Lib.hid hy2
              have Ht : Hid (y1 ++ ⟨#[46]⟩ ++ y2 = ⟨(Od.textOf ([] ++ [m])).toArray⟩) := by
                show _ = _
                rw [hy1, hy2, show (⟨#[46]⟩ : ByteArray) = ⟨[(46 : UInt8)].toArray⟩ from rfl, str_add, str_add]
                simp [Od.textOf, Od.textTail, fst2_lt h80]
              have hm := Hm.out
              clear hx hy1 hy2 htl
              go_wp2_with fail
              refine (refdigits_of _ _ (m / 40) 1 _ (by omega) rfl (by omega) (by omega)).mono ?_
              rintro _ w3 ⟨rfl, hb3⟩
              have Hb3 := Lib.hid (Hbl.out.trans (hb3.mono hz))
              have hz3 := Hb3.out.size
              rw [← Hy1.out]
              clear hb3
              go_wp2_with fail
              refine (refdigits_of _ _ (m - 40 * (m / 40)) 1 _ (by omega) rfl (by omega) (by omega)).mono ?_
              rintro _ w4 ⟨rfl, hb4⟩
              have Hb4 := Lib.hid (Hb3.out.trans (hb4.mono hz3))
              rw [← Hy2.out]
              clear hb4
              go_wp2_with fail
              go_roundw
              case rel => exact ⟨k + 1, 0, 0, [] ++ [m], by rw [← Ht.out], rfl, rfl, by go_num, by omega, by omega, Hb4.out, Hn⟩
              case measure => simp [intOf]; omega
            · have h80i : ¬ (m : Int) < 80 := by omega
              obtain ⟨y1, hy1⟩ : ∃ y : ByteArray, y = ⟨(Dig.dgs (2) 1).toArray⟩ := ⟨_, rfl⟩
              obtain ⟨y2, hy2⟩ : ∃ y : ByteArray, y = ⟨(Dig.dgs (m - 80) 1).toArray⟩ := ⟨_, rfl⟩
              have hys1 : y1.size ≤ 20 := by rw [hy1]; exact dstr_size _
              have hys2 : y2.size ≤ 20 := by rw [hy2]; exact dstr_size _
              have Hy1 := Lib.hid hy1
              have Hy2 := Lib.hid hy2
              have Ht : Hid (y1 ++ ⟨#[46]⟩ ++ y2 = ⟨(Od.textOf ([] ++ [m])).toArray⟩) := by
                show _ = _
                rw [hy1, hy2, show (⟨#[46]⟩ : ByteArray) = ⟨[(46 : UInt8)].toArray⟩ from rfl, str_add, str_add]
                simp [Od.textOf, Od.textTail, fst2_ge h80]
              have hm := Hm.out
              clear hx hy1 hy2 htl
              go_wp2_with fail
              refine (refdigits_of _ _ (2) 1 _ (by omega) rfl (by omega) (by omega)).mono ?_
              rintro _ w3 ⟨rfl, hb3⟩
              have Hb3 := Lib.hid (Hbl.out.trans (hb3.mono hz))
              have hz3 := Hb3.out.size
              rw [← Hy1.out]
              clear hb3
              go_wp2_with fail
              refine (refdigits_of _ _ (m - 80) 1 _ (by omega) rfl (by omega) (by omega)).mono ?_
              rintro _ w4 ⟨rfl, hb4⟩
              have Hb4 := Lib.hid (Hb3.out.trans (hb4.mono hz3))
              rw [← Hy2.out]
              clear hb4
              go_wp2_with fail
              go_roundw
              case rel => exact ⟨k + 1, 0, 0, [] ++ [m], by rw [← Ht.out], rfl, rfl, by go_num, by omega, by omega, Hb4.out, Hn⟩
              case measure => simp [intOf]; omega
          · have hem := isEmpty_of.2 (show ¬ x.size = 0 by rw [hx]; exact text_nil hg)
            obtain ⟨y, hy⟩ : ∃ y : ByteArray, y = ⟨(Dig.dgs m 1).toArray⟩ := ⟨_, rfl⟩
            have hys : y.size ≤ 20 := by rw [hy]; exact Dig.dgs_length_le m 1
            have Hy := Lib.hid hy
            have Ht : Hid (x ++ ⟨#[46]⟩ ++ y = ⟨(Od.textOf (gs ++ [m])).toArray⟩) := by
              show _ = _
              rw [hx, hy, Od.textOf_snoc hg, show (⟨#[46]⟩ : ByteArray) = ⟨[(46 : UInt8)].toArray⟩ from rfl, str_add, str_add]; simp
            clear hx hy hg htl
            go_wp2_with fail
            refine (refdigits_of _ _ m 1 _ Hm.out rfl hm63 (by omega)).mono ?_
            rintro _ w3 ⟨rfl, hb3⟩
            have Hb3 := Lib.hid (Hbl.out.trans (hb3.mono hz))
            rw [← Hy.out]
            clear hb3
            go_wp2_with fail
            go_roundw
            case rel => exact ⟨k + 1, 0, 0, gs ++ [m], by rw [← Ht.out], rfl, rfl, by go_num, by omega, by omega, Hb3.out, Hn⟩
            case measure => simp [intOf]; omega
    · have Hfin := Lib.hid (HO.out.fin (by omega))
      obtain ⟨x, hx⟩ : ∃ x : ByteArray, x = ⟨(Od.textOf gs).toArray⟩ := ⟨_, rfl⟩
      have hxl : x.data.toList = Od.textOf gs := by rw [hx]
      have hxs : x.size ≤ 10000 := by rw [hx]; show (Od.textOf gs).length ≤ _; omega
      rw [← hx]
      have Hx := Lib.hid hx
      have Hbl := Lib.hid hbl
      have Hxl := Lib.hid hxl
      clear hx hbl hxl htl
      go_wp2_with fail
      refine (refoid_any x _ hxs).mono ?_
      intro e w3 h3
      unfold OidPost at h3
      rw [Hxl.out] at h3
      cases he : Od.enc (Od.textOf gs) with
      | none =>
        rw [he] at h3
        obtain ⟨rfl, hb⟩ := h3
        have Hf := Lib.hid (txt_none (o := Od.decO b) (by rw [Hfin.out, he, if_neg (by simp)]))
        have Hb3 := Lib.hid (Hbl.out.trans (hb.mono hz))
        clear he hb
        go_wp2_with fail
        go_ret2
        exact ⟨by rw [Hf.out]; rfl, Hb3.out⟩
      | some out =>
        rw [he] at h3
        obtain ⟨v, rfl, hrow, hb⟩ := h3
        have Hb3 := Lib.hid (Hbl.out.trans (hb.mono hz))
        obtain ⟨_, A', c', rfl, hr'⟩ := own_str hrow
        have hrb := HR.out.below Hb3.out
        have H1 : (convert 25 9 (.slice A b.length c)).run Tryd.prog w3 = .ok (.string ⟨b.toArray⟩) w3 := run_tostr Tryd.underlying25 Tryd.underlying5 Tryd.underlying9 hrb
        have H2 : (convert 25 9 (.slice A' out.length c')).run Tryd.prog w3 = .ok (.string ⟨out.toArray⟩) w3 := run_tostr Tryd.underlying25 Tryd.underlying5 Tryd.underlying9 hr'
        by_cases hout : out = b
        · subst hout
          have Hf : Hid (txtVal (Od.decO out) = .tuple #[.string x, .int .i64 0]) := by
            show _ = _
            rw [txt_some (o := Od.decO out) (t := Od.textOf gs) (by rw [Hfin.out, he, if_pos rfl]), Hx.out]
          obtain ⟨z, hz'⟩ : ∃ z : ByteArray, z = ⟨out.toArray⟩ := ⟨_, rfl⟩
          rw [← hz'] at H1 H2
          clear he hb hrow hr' hrb hz'
          go_wp2_with fail
          go_ret2
          exact ⟨by rw [Hf.out]; rfl, Hb3.out⟩
        · have Hf := Lib.hid (txt_none (o := Od.decO b) (by rw [Hfin.out, he, if_neg (fun e => hout (Option.some.inj e))]))
          obtain ⟨z1, hz1⟩ : ∃ z : ByteArray, z = ⟨b.toArray⟩ := ⟨_, rfl⟩
          obtain ⟨z2, hz2⟩ : ∃ z : ByteArray, z = ⟨out.toArray⟩ := ⟨_, rfl⟩
          have hn1 : (z2.toList == z1.toList) = false := by
            rw [hz1, hz2, Lib.toList_data, Lib.toList_data, beq_eq_false_iff_ne]
            simpa using hout
          have hn2 : (z2.toList != z1.toList) = true := by rw [bne, hn1]; rfl
          rw [← hz1] at H1
          rw [← hz2] at H2
          clear he hb hrow hr' hrb hz1 hz2 hout
          go_wp2_with fail
          go_ret2
          exact ⟨by rw [Hf.out]; rfl, Hb3.out⟩
end Go.Proofs.YtehdbceemdpbaaaDoor
