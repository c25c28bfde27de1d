/- The walk of OidText of the program: the text of an object identifier's bytes. -/
import Derived.Test.YtehdbceemdpbaaaDoorTimeW2
import Derived.Test.YtehdbceemdpbaaaDoorPutW
import Derived.Test.YtehdbceemdpbaaaDoorDec
import Derived.Laws.Bits64b
namespace Go.Proofs.YtehdbceemdpbaaaDoor
open Go Go.RowKit

/-- What such a reader hands back. -/
def txtVal (o : Option (List UInt8)) : Value := match o with
  | some t => .tuple #[.string ⟨t.toArray⟩, .int .i64 0]
  | none => .tuple #[.string ⟨#[]⟩, .int .i64 20]
def pre (gs : List Nat) (o : Option (List Nat)) : Option (List Nat) := match o with
  | some r => some (gs ++ r)
  | none => none
/-- What has been read: whole numbers, and n of the one at hand. -/
structure OT (b : List UInt8) (k n : Nat) (gs : List Nat) (fr ft : Bool) : Prop where
  d : Od.dec 0 b = pre gs (Od.dec n (b.drop k))
  fr : fr = decide (n = 0)
  ft : ft = gs.isEmpty
  top : n ≤ 9223372036854775807
  len : gs.length ≤ k
theorem OT.start (b : List UInt8) : OT b 0 0 [] true true := ⟨by cases h : Od.dec 0 b <;> simp [pre, h], rfl, rfl, by omega, by simp⟩
theorem OT.bad {b : List UInt8} {k n : Nat} {gs : List Nat} {fr ft : Bool} (h : OT b k n gs fr ft) (hk : k < b.length) (hb : (n = 0 ∧ b[k].toNat = 128) ∨ 72057594037927935 < n) : Od.decO b = none := by
  have h1 := h.d
  rw [List.drop_eq_getElem_cons hk, Od.dec_bad hb] at h1
  unfold Od.decO
  rw [h1]; rfl
theorem OT.more {b : List UInt8} {k n : Nat} {gs : List Nat} {fr ft : Bool} (h : OT b k n gs fr ft) (hk : k < b.length) (hb : ¬ ((n = 0 ∧ b[k].toNat = 128) ∨ 72057594037927935 < n)) (hc : 128 ≤ b[k].toNat) : OT b (k + 1) (n * 128 + b[k].toNat % 128) gs false ft := by
  have h8 := b[k].toNat_lt
  have h1 := h.d
  rw [List.drop_eq_getElem_cons hk, Od.dec_more hb hc] at h1
  refine ⟨h1, ?_, h.ft, by omega, by have := h.len; omega⟩
  have : ¬ (n * 128 + b[k].toNat % 128 = 0) := by omega
  simp only [this, decide_false]
theorem OT.last {b : List UInt8} {k n : Nat} {gs : List Nat} {fr ft : Bool} (h : OT b k n gs fr ft) (hk : k < b.length) (hb : ¬ ((n = 0 ∧ b[k].toNat = 128) ∨ 72057594037927935 < n)) (hc : b[k].toNat < 128) : OT b (k + 1) 0 (gs ++ [n * 128 + b[k].toNat % 128]) true false := by
  have h1 := h.d
  rw [List.drop_eq_getElem_cons hk, Od.dec_last hb hc] at h1
  refine ⟨?_, rfl, by simp, by omega, by have := h.len; simp; omega⟩
  rw [h1]
  cases Od.dec 0 (b.drop (k + 1)) <;> simp [pre]
theorem OT.fin_no {b : List UInt8} {k n : Nat} {gs : List Nat} {fr ft : Bool} (h : OT b k n gs fr ft) (hk : b.length ≤ k) (hb : fr = false ∨ ft = true) : Od.decO b = none := by
  have h1 := h.d
  rw [List.drop_of_length_le hk] at h1
  unfold Od.decO
  rw [h1]
  by_cases hn : n = 0
  · have e : gs = [] := by
      rcases hb with hb | hb
      · have := h.fr; rw [hb] at this; simp [hn] at this
      · have := h.ft; rw [hb] at this; simpa using this.symm
    subst hn e
    simp [Od.dec, pre]
  · simp [Od.dec, hn, pre]
theorem OT.fin_yes {b : List UInt8} {k n : Nat} {gs : List Nat} (h : OT b k n gs true false) (hk : b.length ≤ k) : Od.decO b = some (Od.textOf gs) := by
  have h1 := h.d
  have hn : n = 0 := by have := h.fr; simpa using this.symm
  subst hn
  rw [List.drop_of_length_le hk] at h1
  unfold Od.decO
  rw [h1]
  cases gs with
  | nil => have := h.ft; simp at this
  | cons g gs => simp [Od.dec, pre]
theorem text_len (gs : List Nat) : (Od.textOf gs).length ≤ 42 + 21 * gs.length := by
  have ht : ∀ l : List Nat, (Od.textTail l).length ≤ 21 * l.length := by
    intro l
    induction l with
    | nil => simp [Od.textTail]
    | cons n l ih => have := Dig.dgs_length_le n 1; simp only [Od.textTail, List.length_cons, List.length_append]; omega
  cases gs with
  | nil => simp [Od.textOf]
  | cons g gs =>
    have h1 := Dig.dgs_length_le (Od.fst2 g) 1
    have h2 := Dig.dgs_length_le (g - 40 * Od.fst2 g) 1
    have h3 := ht gs
    simp only [Od.textOf, List.length_cons, List.length_append]; omega
/-- 'n<<7 | uint64(c&127)'. -/
theorem or_low (n c : Nat) (hn : n ≤ 72057594037927935) (hc : c < 256) : bits BinOp.or IntKind.u64 ((n : Int) * 128) (IntKind.u64.wrap (bits BinOp.and IntKind.u8 (c : Int) 127)) = ((n * 128 + c % 128 : Nat) : Int) := by
  rw [and_127 c hc, IntKind.wrap_u64, show (((c % 128 : Nat) : Int) % 18446744073709551616) = ((c % 128 : Nat) : Int) by omega, show ((n : Int) * 128) = ((n * 128 : Nat) : Int) by omega, bits_or_u64_nat _ _ (by omega) (by omega)]
  congr 1
  have := Nat.shiftLeft_add_eq_or_of_lt (a := n) (b := c % 128) (i := 7) (by omega)
  rw [Nat.shiftLeft_eq] at this
  exact this.symm
theorem appB_none (base : Nat) (w : World) : AppB base w w (.slice none 0 0) (.slice none 0 0) [] := ⟨appB_nil _ _, World.grownBy.refl _ _, fun g hg => by cases hg⟩
set_option maxHeartbeats 4000000 in
set_option maxRecDepth 100000 in
theorem oidText_any (A : Option Addr) (c : Nat) (b : List UInt8) (w : World) (hr : Reads w w.heap.size 1 A b.length (Lib.byteCells b)) (hlen : b.length ≤ 40000) :
    Calls Tryd.prog 36 #[.slice A b.length c] w fun e w' => e = .returned (txtVal (Od.decO b)) ∧ Below w.heap.size w w' := by
  obtain ⟨i0, hi0, hz0, hz1, hz2⟩ := info_parts info_u8
  have HR := Lib.hid hr
  clear hr
  go_enter Tryd.func36, Tryd.ntmps36
  go_wp2_with fail
  go_loopw [4, 5, 6, 7, 13] (fun t4 t5 t6 t7 t13 wr => ∃ (k n : Nat) (gs : List Nat) (v : Value) (fr ft : Bool), v = t4 ∧ t5 = .int .u64 n ∧ t6 = .bool fr ∧ t7 = .bool ft ∧ t13 = .int .i64 k ∧ k ≤ b.length ∧ Hid (AppB w.heap.size w wr (.slice none 0 0) v (Od.textOf gs)) ∧ Hid (OT b k n gs fr ft)) (fun _ _ _ _ t13 _ => b.length - (intOf t13).toNat)
  case atStart => exact ⟨0, 0, [], _, true, true, rfl, rfl, rfl, rfl, rfl, Nat.zero_le _, appB_none _ _, OT.start b⟩
  case round =>
    obtain ⟨k, n, gs, v, fr, ft, rfl, rfl, rfl, rfl, rfl, hk, HA, HO⟩ := hrel
    have hbl := HA.out.below (appB_nil _ _) (Nat.le_refl _)
    have hz := hbl.size
    have hnt := HO.out.top
    have htl : (Od.textOf gs).length ≤ 900000 := by have h1 := text_len gs; have h2 := HO.out.len; omega
    by_cases hlt : k < b.length
    · obtain ⟨ad, rfl, _, hcl⟩ := (HR.out.below hbl).2 (by omega)
      have hc1 : wr.cell? (ad.add k) = some (.int .u8 (b[k].toNat : Int)) := hcl k _ (by simp [Lib.byteCells, List.getElem?_eq_getElem hlt])
      have h8' : b[k].toNat < 256 := b[k].toNat_lt
      have Hbl := Lib.hid hbl
      clear hcl hbl
      by_cases hb : (n = 0 ∧ b[k].toNat = 128) ∨ 72057594037927935 < n
      · have Hf := Lib.hid (HO.out.bad hlt hb)
        have Hv : Hid (txtVal (Od.decO b) = .tuple #[.string ⟨#[]⟩, .int .i64 20]) := by show _ = _; rw [Hf.out]; rfl
        rcases hb with ⟨rfl, hb⟩ | hb
        · obtain rfl : fr = true := by have := HO.out.fr; simpa using this
          have hb2 : ((b[k].toNat : Int) == 128) = true := by simp; omega
          obtain ⟨x, hx⟩ : ∃ x : Int, x = (b[k].toNat : Int) := ⟨_, rfl⟩
          rw [← hx] at hc1 hb2
          clear hx hb
          go_wp2_with fail
          go_ret2
          exact ⟨by rw [Hv.out]; rfl, Hbl.out⟩
        · obtain rfl : fr = false := by have := HO.out.fr; rw [this]; simp; omega
          go_wp2_with fail
          go_ret2
          exact ⟨by rw [Hv.out]; rfl, Hbl.out⟩
      · have hn56 : n ≤ 72057594037927935 := by omega
        have hor := or_low n b[k].toNat hn56 h8'
        have h128 : (fr = false) ∨ (fr = true ∧ ((b[k].toNat : Int) == 128) = false) := by
          have := HO.out.fr
          cases fr
          · exact .inl rfl
          · refine .inr ⟨rfl, ?_⟩
            have h0 : n = 0 := by simpa using this.symm
            simp; omega
        by_cases hhi : 128 ≤ b[k].toNat
        · have Hn := Lib.hid (HO.out.more hlt hb hhi)
          have hhi2 : (127 : Int) < (b[k].toNat : Int) := by omega
          obtain ⟨x, hx⟩ : ∃ x : Int, x = (b[k].toNat : Int) := ⟨_, rfl⟩
          obtain ⟨m, hm⟩ : ∃ m : Nat, m = n * 128 + b[k].toNat % 128 := ⟨_, rfl⟩
          rw [← hx] at hc1 h128 hhi2
          rw [← hm] at Hn hor
          rw [← hx] at hor
          clear hx hm hb hhi h8'
          rcases h128 with rfl | ⟨rfl, h128⟩
          · go_wp2_with fail
            go_roundw
            case rel => exact ⟨k + 1, m, gs, _, false, ft, rfl, rfl, rfl, rfl, by go_num, by omega, HA, Hn⟩
            case measure => simp [intOf]; omega
          · go_wp2_with fail
            go_roundw
            case rel => exact ⟨k + 1, m, gs, _, false, ft, rfl, rfl, rfl, rfl, by go_num, by omega, HA, Hn⟩
            case measure => simp [intOf]; omega
        · have Hn := Lib.hid (HO.out.last hlt hb (by omega))
          have hhi2 : ¬ (127 : Int) < (b[k].toNat : Int) := by omega
          have hm63 : n * 128 + b[k].toNat % 128 ≤ 9223372036854775807 := by omega
          obtain ⟨x, hx⟩ : ∃ x : Int, x = (b[k].toNat : Int) := ⟨_, rfl⟩
          obtain ⟨m, hm⟩ : ∃ m : Nat, m = n * 128 + b[k].toNat % 128 := ⟨_, rfl⟩
          rw [← hx] at hc1 h128 hhi2
          rw [← hm] at Hn hor hm63
          rw [← hx] at hor
          clear hx hm hb hhi h8'
          cases ft
          · have hne : gs ≠ [] := by
              intro e
              have := HO.out.ft
              rw [e] at this; simp at this
            have Ht : Hid (Od.textOf gs ++ [46] ++ Dig.dgs m 1 = Od.textOf (gs ++ [m])) := by show _ = _; rw [Od.textOf_snoc hne]; simp
            clear hne
            rcases h128 with rfl | ⟨rfl, h128⟩
            all_goals
              go_wp2_with (refine wpList_push rfl (.tmp 45) (.tmp 46) 25 rfl w.heap.size i0 Tryd.underlying25 hi0 hz0 hz1 hz2 v _ rfl HA.out.own 46 46 rfl 1 rfl (by omega) hz ?_; intro v2 w2 A2)
              have B2 := Lib.hid (HA.out.trans A2)
              have hz2' := B2.out.grown.size
              clear A2
              refine (digits_int _ _ _ _ w.heap.size _ B2.out.own hz2' (by simp; omega) (by omega) (by omega) (by omega) (by omega)).mono ?_
              rintro e w3 ⟨v3, rfl, A3⟩
              have B3 := Lib.hid (B2.out.trans A3)
              rw [Int.toNat_natCast, show Int.toNat 1 = 1 from rfl, Ht.out] at B3
              clear A3 B2 hz2'
              go_wp2_with fail
              go_roundw
              case rel => exact ⟨k + 1, 0, gs ++ [m], _, true, false, rfl, rfl, rfl, rfl, by go_num, by omega, B3, Hn⟩
              case measure => simp [intOf]; omega
          · obtain rfl : gs = [] := by have := HO.out.ft; simpa using this.symm
            by_cases h80 : m / 40 ≤ 2
            · have Ht : Hid (Od.textOf [] ++ Dig.dgs (m / 40) 1 ++ [46] ++ Dig.dgs (m - 40 * (m / 40)) 1 = Od.textOf ([] ++ [m])) := by
                show _ = _
                have e : Od.fst2 m = m / 40 := by unfold Od.fst2; split <;> omega
                simp [Od.textOf, Od.textTail, e]
              rcases h128 with rfl | ⟨rfl, h128⟩
              all_goals
                go_wp2_with fail
                refine (digits_int _ _ _ _ w.heap.size _ HA.out.own hz (by omega) (by omega) (by omega) (by omega) (by omega)).mono ?_
                rintro e w1 ⟨v1, rfl, A1⟩
                have B1 := Lib.hid (HA.out.trans A1)
                rw [show Int.toNat 1 = 1 from rfl, show ((m : Int) / 40).toNat = m / 40 by omega] at B1
                have hz1' : w.heap.size ≤ w1.heap.size := B1.out.grown.size
                clear A1
                go_wp2_with (refine wpList_push rfl (.tmp 45) (.tmp 46) 25 rfl w.heap.size i0 Tryd.underlying25 hi0 hz0 hz1 hz2 v1 _ rfl B1.out.own 46 46 rfl 1 rfl (by have h1 := Dig.dgs_length_le (m / 40) 1; have h2 := Dig.dgs_length_le 2 1; simp [Od.textOf]; omega) hz1' ?_; intro v2 w2 A2)
                have B2 := Lib.hid (B1.out.trans A2)
                have hz2' := B2.out.grown.size
                clear A2
                refine (digits_int _ _ _ _ w.heap.size _ B2.out.own hz2' (by have h1 := Dig.dgs_length_le (m / 40) 1; have h2 := Dig.dgs_length_le 2 1; simp [Od.textOf]; omega) (by omega) (by omega) (by omega) (by omega)).mono ?_
                rintro e w3 ⟨v3, rfl, A3⟩
                have B3 := Lib.hid (B2.out.trans A3)
                rw [show Int.toNat 1 = 1 from rfl, show ((m : Int) - 40 * ((m : Int) / 40)).toNat = m - 40 * (m / 40) by omega, Ht.out] at B3
                clear A3 B2 B1 hz2' hz1'
                go_wp2_with fail
                go_roundw
                case rel => exact ⟨k + 1, 0, [] ++ [m], _, true, false, rfl, rfl, rfl, rfl, by go_num, by omega, B3, Hn⟩
                case measure => simp [intOf]; omega
            · have Ht : Hid (Od.textOf [] ++ Dig.dgs 2 1 ++ [46] ++ Dig.dgs (m - 80) 1 = Od.textOf ([] ++ [m])) := by
                show _ = _
                have e : Od.fst2 m = 2 := by unfold Od.fst2; rw [if_neg (by omega)]
                simp [Od.textOf, Od.textTail, e]
              rcases h128 with rfl | ⟨rfl, h128⟩
              all_goals
                go_wp2_with fail
                refine (digits_int _ _ _ _ w.heap.size _ HA.out.own hz (by omega) (by omega) (by omega) (by omega) (by omega)).mono ?_
                rintro e w1 ⟨v1, rfl, A1⟩
                have B1 := Lib.hid (HA.out.trans A1)
                rw [show Int.toNat 1 = 1 from rfl, show Int.toNat 2 = 2 from rfl] at B1
                have hz1' : w.heap.size ≤ w1.heap.size := B1.out.grown.size
                clear A1
                go_wp2_with (refine wpList_push rfl (.tmp 45) (.tmp 46) 25 rfl w.heap.size i0 Tryd.underlying25 hi0 hz0 hz1 hz2 v1 _ rfl B1.out.own 46 46 rfl 1 rfl (by have h1 := Dig.dgs_length_le (m / 40) 1; have h2 := Dig.dgs_length_le 2 1; simp [Od.textOf]; omega) hz1' ?_; intro v2 w2 A2)
                have B2 := Lib.hid (B1.out.trans A2)
                have hz2' := B2.out.grown.size
                clear A2
                refine (digits_int _ _ _ _ w.heap.size _ B2.out.own hz2' (by have h1 := Dig.dgs_length_le (m / 40) 1; have h2 := Dig.dgs_length_le 2 1; simp [Od.textOf]; omega) (by omega) (by omega) (by omega) (by omega)).mono ?_
                rintro e w3 ⟨v3, rfl, A3⟩
                have B3 := Lib.hid (B2.out.trans A3)
                rw [show Int.toNat 1 = 1 from rfl, show ((m : Int) - 80).toNat = m - 80 by omega, Ht.out] at B3
                clear A3 B2 B1 hz2' hz1'
                go_wp2_with fail
                go_roundw
                case rel => exact ⟨k + 1, 0, [] ++ [m], _, true, false, rfl, rfl, rfl, rfl, by go_num, by omega, B3, Hn⟩
                case measure => simp [intOf]; omega
    · have Hk := Lib.hid hlt
      by_cases hyes : fr = true ∧ ft = false
      · obtain ⟨rfl, rfl⟩ := hyes
        have Hv : Hid (txtVal (Od.decO b) = .tuple #[.string ⟨(Od.textOf gs).toArray⟩, .int .i64 0]) := by show _ = _; rw [HO.out.fin_yes (by omega)]; rfl
        have Hbl := Lib.hid hbl
        clear hbl
        go_wp2_with (refine wpList_tostr rfl (.tmp 56) 25 9 5 rfl Tryd.underlying25 Tryd.underlying5 Tryd.underlying9 v rfl _ (own_str HA.out.own) ?_)
        go_ret2
        exact ⟨by rw [Hv.out]; rfl, Hbl.out⟩
      · have hb : fr = false ∨ ft = true := by cases fr <;> cases ft <;> simp_all
        have Hv : Hid (txtVal (Od.decO b) = .tuple #[.string ⟨#[]⟩, .int .i64 20]) := by show _ = _; rw [HO.out.fin_no (by omega) hb]; rfl
        have Hbl := Lib.hid hbl
        clear hbl hyes
        rcases hb with rfl | rfl
        · go_wp2_with fail
          go_ret2
          exact ⟨by rw [Hv.out]; rfl, Hbl.out⟩
        · cases fr
          all_goals
            go_wp2_with fail
            go_ret2
            exact ⟨by rw [Hv.out]; rfl, Hbl.out⟩
end Go.Proofs.YtehdbceemdpbaaaDoor
