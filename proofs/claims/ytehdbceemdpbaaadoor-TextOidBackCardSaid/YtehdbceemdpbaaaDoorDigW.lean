/- The walks of digits: the program's (onto a row of bytes of the call's own) and the reference's (a text). -/
import Derived.Test.YtehdbceemdpbaaaDoorChecked
import Derived.Test.YtehdbceemdpbaaaDoorWords
import Derived.Test.YtehdbceemdpbaaaDoorDig
import Derived.WalkKit
import Derived.BigCall
import Derived.BigQuiet
import Derived.Outline
import Derived.Handy
import Derived.ShutString
import Derived.WalkLawsBesides
import Derived.WalkSpells
namespace Go.Proofs.YtehdbceemdpbaaaDoor
open Go Go.RowKit

/-- 'string([]byte{x})'. -/
theorem str_one (W : World) (x : Int) :
    (convert 25 9 (.slice (some ⟨W.heap.size, 0, none⟩) 1 1)).run Tryd.prog (W.alloc (.cells #[.int .u8 x] 5)) = .ok (.string ⟨#[UInt8.ofNat x.toNat]⟩) (W.alloc (.cells #[.int .u8 x] 5)) := by
  rw [run_convert_bytes_string _ 25 9 5 _ _ _ Tryd.underlying25 Tryd.underlying5 Tryd.underlying9]
  have hl := run_loadCells_list (P := Tryd.prog) (W.alloc (.cells #[.int .u8 x] 5)) ⟨W.heap.size, 0, none⟩ [.int .u8 x] (fun j v hj => by
    match j, hj with
    | 0, hj => simp at hj; subst hj; simp [Addr.add])
  exact run_bytesToString _ ⟨W.heap.size, 0, none⟩ 1 1 [x] (by simpa using hl)

theorem str_app (a b : Array UInt8) : ((⟨a⟩ : ByteArray) ++ (⟨b⟩ : ByteArray)) = ⟨a ++ b⟩ := by
  apply ByteArray.ext; simp
theorem dig_str (m : Nat) (l : List UInt8) : ((⟨#[48 + UInt8.ofNat (m % 10)]⟩ : ByteArray) ++ (⟨l.toArray⟩ : ByteArray)) = ⟨(Dig.dig m :: l).toArray⟩ := by
  rw [str_app]
  congr 1
  have : 48 + UInt8.ofNat (m % 10) = Dig.dig m := by unfold Dig.dig; rw [UInt8.ofNat_add]; rfl
  rw [this]
  simp
def lenOf : Value → Nat | .string s => s.size | _ => 0
set_option maxHeartbeats 1000000 in
set_option maxRecDepth 100000 in
theorem refdigits_any (n least : Nat) (w : World) (h0 : (n : Int) ≤ 18446744073709551615) (h1 : least ≤ 20) :
    Calls Tryd.prog 53 #[.int .u64 n, .int .i64 least] w fun e w' => e = .returned (.string ⟨(Dig.dgs n least).toArray⟩) ∧ Below w.heap.size w w' := by
  have HS := Lib.hid (Dig.Inv.start (n := n) (least := least) (by omega) h1)
  have kc := str_one
  go_enter Tryd.func53, Tryd.ntmps53
  go_wp2_with fail
  go_loopw [0, 5] (fun t0 t5 wr => ∃ (f m : Nat) (l : List UInt8), t0 = .int .u64 m ∧ t5 = .string ⟨l.toArray⟩ ∧ (m : Int) ≤ 18446744073709551615 ∧ l.length ≤ 20 ∧ Hid (Dig.Inv n least f m l) ∧ Below w.heap.size w wr) (fun _ t5 _ => 20 - lenOf t5)
  case atStart => exact ⟨20, n, [], rfl, rfl, h0, by simp, HS, Below.refl _ _⟩
  case round =>
    obtain ⟨f, m, l, rfl, rfl, hm, hL, HI, hb⟩ := hrel
    have fin : ∀ (hh : 0 < m ∨ l.length < least) (o : Obj), (∃ (f' m' : Nat) (l' : List UInt8), Value.int .u64 ((m : Int) / 10) = .int .u64 m' ∧ Value.string ((⟨#[48 + UInt8.ofNat (m % 10)]⟩ : ByteArray) ++ (⟨l.toArray⟩ : ByteArray)) = .string ⟨l'.toArray⟩ ∧ (m' : Int) ≤ 18446744073709551615 ∧ l'.length ≤ 20 ∧ Hid (Dig.Inv n least f' m' l') ∧ Below w.heap.size w (wr.alloc o)) ∧ (20 - lenOf (Value.string ((⟨#[48 + UInt8.ofNat (m % 10)]⟩ : ByteArray) ++ (⟨l.toArray⟩ : ByteArray))) < 20 - lenOf (Value.string ⟨l.toArray⟩)) := by
      intro hh o
      have hp := HI.out.pos hh
      obtain ⟨f', h'⟩ := HI.out.next hh
      rw [dig_str]
      exact ⟨⟨f', m / 10, Dig.dig m :: l, rfl, rfl, by omega, by simp; omega, h', hb.alloc hb.size _⟩, by simp [lenOf, size_of_list]; omega⟩
    have Hf := Lib.hid fin
    clear fin
    by_cases hc : 0 < m
    · go_wp2_with fail
      exact Hf.out (.inl hc) _
    · by_cases hk2 : l.length < least
      · go_wp2_with fail
        exact Hf.out (.inr hk2) _
      · go_wp2_with fail
        go_ret
        exact ⟨by rw [HI.out.stop hc hk2]; rfl, hb⟩
theorem info_u8 : (Tryd.prog.info? 5).map (fun i => (i.zero, i.size, i.bytes)) = some (some (.int .u8 0), 1, 1) := by kernel_rfl
/-- 'd[k:]' of the array of twenty bytes. -/
theorem slice_from (b k : Nat) (hk : k ≤ 20) (W : World) :
    (Instr.sliceAt 89 (.pointer (some ⟨b, 0, none⟩)) (some (.int .i64 (k : Int))) none none).run Tryd.prog W = .ok (.slice (some (if 20 = k then ⟨b, 0, none⟩ else (⟨b, 0, none⟩ : Addr).add (k * 1))) (20 - k) (20 - k)) W := by
  have hz : (sizeOf 5).run Tryd.prog W = .ok 1 W := by kernel_rfl
  have hb : (k : Int) ≤ 20 := by omega
  simp [Instr.sliceAt, run_underlying Tryd.underlying89, Instr.sureAddr, Instr.sliceBounds, Instr.sliceBound, asIntOf, hz, hb, go_sem]
  intro h; omega
theorem reads_at {w : World} {b t k : Nat} {cur : Array Value} {l : List UInt8} (hB : Blk w b t cur) (hs : cur.size = 20) (hd : cur.toList.drop k = Lib.byteCells l) (hk : k + l.length = 20) :
    Reads w w.heap.size 1 (some (if 20 = k then ⟨b, 0, none⟩ else (⟨b, 0, none⟩ : Addr).add (k * 1))) (20 - k) (Lib.byteCells l) := by
  refine ⟨by rw [Lib.byteCells_length]; omega, fun hn => ?_⟩
  rw [if_neg (by omega)]
  refine ⟨_, rfl, by rw [block_of_add]; exact hB.lt, fun j u hu => ?_⟩
  have ha : ((⟨b, 0, none⟩ : Addr).add (k * 1)).add j = ⟨b, k + j, none⟩ := by
    rw [add_of_add]; unfold Addr.add; split <;> simp <;> omega
  rw [ha, hB.cell, ← Array.getElem?_toList, ← List.getElem?_drop, hd]
  exact hu
theorem drop_set {cur : Array Value} {k m : Nat} {l : List UInt8} (hs : cur.size = 20) (hk0 : 0 < k) (hk : k ≤ 20) (hd : cur.toList.drop k = Lib.byteCells l) :
    (cur.setIfInBounds (k - 1) (.int .u8 (48 + (m : Int) % 10))).toList.drop (k - 1) = Lib.byteCells (Dig.dig m :: l) := by
  rw [Array.toList_setIfInBounds]
  have hlen : cur.toList.length = 20 := by simpa using hs
  rw [List.drop_eq_getElem_cons (by simp; omega), show k - 1 + 1 = k by omega, List.drop_set_of_lt (by omega), hd]
  simp [Lib.byteCells, Dig.dig_toNat]
set_option maxHeartbeats 1000000 in
set_option maxRecDepth 100000 in
theorem digits_any (n least : Nat) (v : Value) (l0 : List UInt8) (base : Nat) (w : World) (hown : w.ownsRow base 5 1 v l0.length (Lib.byteCells l0)) (hbase : base ≤ w.heap.size) (hl0 : l0.length ≤ 1000000)
    (h0 : (n : Int) ≤ 18446744073709551615) (h1 : least ≤ 20) :
    Calls Tryd.prog 55 #[v, .int .u64 n, .int .i64 least] w fun e w' => ∃ v', e = .returned v' ∧ AppB base w w' v v' (l0 ++ Dig.dgs n least) := by
  have HS := Lib.hid (Dig.Inv.start (n := n) (least := least) (by omega) h1)
  have HO := Lib.hid hown
  clear hown
  obtain ⟨i0, hi0, hz0, hz1, hz2⟩ := info_parts info_u8
  go_enter Tryd.func55, Tryd.ntmps55
  go_wp2_with fail
  go_loopw [1, 8] (fun t1 t8 wr => ∃ (f m k : Nat) (l : List UInt8) (cur : Array Value), t1 = .int .u64 m ∧ t8 = .int .i64 k ∧ k ≤ 20 ∧ Hid (k + l.length = 20) ∧ (m : Int) ≤ 18446744073709551615 ∧ Hid (Dig.Inv n least f m l) ∧ Hid (Blk wr w.heap.size 89 cur ∧ cur.size = 20 ∧ cur.toList.drop k = Lib.byteCells l) ∧ Below w.heap.size w wr) (fun _ t8 _ => (intOf t8).toNat)
  case atStart => exact ⟨20, n, 20, [], _, rfl, rfl, by omega, by simp [Hid], h0, HS, ⟨Blk.new _ _ _, rfl, rfl⟩, (Below.refl _ w).alloc (Nat.le_refl _) _⟩
  case round =>
    obtain ⟨f, m, k, l, cur, rfl, rfl, hk, HK, hm, HI, HB, hb⟩ := hrel
    have hlk : l.length ≤ 20 := by have := HK.out; omega
    have fin : ∀ (hh : 0 < m ∨ l.length < least), (∃ (f' m' k' : Nat) (l' : List UInt8) (cur' : Array Value), Value.int .u64 ((m : Int) / 10) = .int .u64 m' ∧ Value.int .i64 ((k : Int) - 1) = .int .i64 k' ∧ k' ≤ 20 ∧ Hid (k' + l'.length = 20) ∧ (m' : Int) ≤ 18446744073709551615 ∧ Hid (Dig.Inv n least f' m' l') ∧
        Hid (Blk (wr.setCell ⟨w.heap.size, k - 1, none⟩ (.int .u8 (48 + (m : Int) % 10))) w.heap.size 89 cur' ∧ cur'.size = 20 ∧ cur'.toList.drop k' = Lib.byteCells l') ∧ Below w.heap.size w (wr.setCell ⟨w.heap.size, k - 1, none⟩ (.int .u8 (48 + (m : Int) % 10)))) ∧
        (intOf (Value.int .i64 ((k : Int) - 1))).toNat < (intOf (Value.int .i64 k)).toNat := by
      intro hh
      have hp := HI.out.pos hh
      obtain ⟨f', h'⟩ := HI.out.next hh
      have hk' := HK.out
      exact ⟨⟨f', m / 10, k - 1, Dig.dig m :: l, _, rfl, by go_num, by omega, by show _ = _; simp; omega, by omega, h', ⟨HB.out.1.set_ _ _, by simp [HB.out.2.1], drop_set HB.out.2.1 (by omega) hk HB.out.2.2⟩, hb.setCell (p := ⟨w.heap.size, k - 1, none⟩) (Nat.le_refl _) _⟩, by simp [intOf]; omega⟩
    have Hf := Lib.hid fin
    clear fin
    have hcell : 0 < k → wr.cell? ⟨w.heap.size, k - 1, none⟩ = some (cur[k-1]?.getD undef) := fun hk0 => by
      rw [HB.out.1.cell, Array.getElem?_eq_getElem (by have := HB.out.2.1; omega)]; rfl
    have hf1 := HB.out.1.frozen (k - 1)
    have Hcell := Lib.hid hcell
    clear hcell
    by_cases hc : 0 < m
    · have hp := HI.out.pos (.inl hc)
      have hk0 : 0 < k := by have := HK.out; omega
      have hc1 := Hcell.out hk0
      go_wp2_with fail
      exact Hf.out (.inl hc)
    · by_cases hk2 : l.length < least
      · have hp := HI.out.pos (.inr hk2)
        have hk0 : 0 < k := by have := HK.out; omega
        have hc1 := Hcell.out hk0
        have hlt : (20 : Int) - k < least := by have := HK.out; omega
        go_wp2_with fail
        exact Hf.out (.inr hk2)
      · have hlt : (least : Int) ≤ 20 - k := by have := HK.out; omega
        have hsl := slice_from w.heap.size k hk
        have hr := reads_at HB.out.1 HB.out.2.1 HB.out.2.2 HK.out
        obtain ⟨ad, had⟩ : ∃ ad, ad = (if 20 = k then ⟨w.heap.size, 0, none⟩ else (⟨w.heap.size, 0, none⟩ : Addr).add (k * 1)) := ⟨_, rfl⟩
        rw [← had] at hsl hr
        clear had
        have Hr := Lib.hid hr
        clear hr
        have HO' := Lib.hid (own_below HO.out hb)
        have hs' := hb.size
        go_wp2_with (refine wpList_append_any _ rfl (.tmp 27) (.tmp 29) _ rfl base 5 i0 _ 1 1 Tryd.underlying25 hi0 hz0 hz1 hz2 rfl (by omega) v l0.length (Lib.byteCells l0) rfl HO'.out wr.heap.size (some ad) (20 - k) (20 - k) (Lib.byteCells l) rfl Hr.out (by intro u hu; obtain ⟨c, _, rfl⟩ := List.mem_map.1 hu; rfl) (by simp only [maxLen]; omega) (by omega) (by omega) ?_; intro v' w1 hown1 hgrow1 hat1)
        go_ret
        have hds := HI.out.stop hc hk2
        have hl20 : 20 - k = l.length := by have := HK.out; omega
        refine ⟨v', rfl, ?_, ?_, ?_⟩
        · rw [hds, Lib.byteCells_append, List.length_append, ← hl20]; exact hown1
        · exact grown_trans2 (only_of_below hb _) hgrow1 (fun g hg => .inl hg)
        · intro g hg
          rcases hat1 with h | h
          · exact .inl (by rw [← h]; exact hg)
          · rw [h] at hg; injection hg with hg; exact .inr (by omega)
/-- The same, its numbers as integers: so that it fits whatever stands at a call. -/
theorem digits_int (a k : Int) (v : Value) (l0 : List UInt8) (base : Nat) (w : World) (hown : w.ownsRow base 5 1 v l0.length (Lib.byteCells l0)) (hbase : base ≤ w.heap.size) (hl0 : l0.length ≤ 1000000)
    (h0 : 0 ≤ a) (h1 : a ≤ 18446744073709551615) (hk0 : 0 ≤ k) (hk1 : k ≤ 20) :
    Calls Tryd.prog 55 #[v, .int .u64 a, .int .i64 k] w fun e w' => ∃ v', e = .returned v' ∧ AppB base w w' v v' (l0 ++ Dig.dgs a.toNat k.toNat) := by
  obtain ⟨n, rfl⟩ := Int.eq_ofNat_of_zero_le h0
  obtain ⟨j, rfl⟩ := Int.eq_ofNat_of_zero_le hk0
  exact digits_any n j v l0 base w hown hbase hl0 h1 (by omega)
theorem refdigits_int (a k : Int) (w : World) (h0 : 0 ≤ a) (h1 : a ≤ 18446744073709551615) (hk0 : 0 ≤ k) (hk1 : k ≤ 20) :
    Calls Tryd.prog 53 #[.int .u64 a, .int .i64 k] w fun e w' => e = .returned (.string ⟨(Dig.dgs a.toNat k.toNat).toArray⟩) ∧ Below w.heap.size w w' := by
  obtain ⟨n, rfl⟩ := Int.eq_ofNat_of_zero_le h0
  obtain ⟨j, rfl⟩ := Int.eq_ofNat_of_zero_le hk0
  exact refdigits_any n j w h1 (by omega)
end Go.Proofs.YtehdbceemdpbaaaDoor
