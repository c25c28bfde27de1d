/- The walk of the reference's OidBytes. -/
import Derived.Test.YtehdbceemdpbaaaDoorNums
namespace Go.Proofs.YtehdbceemdpbaaaDoor
open Go Go.RowKit

theorem own_mono {w : World} {a b : Nat} {e : TypeId} {size n : Nat} {v : Value} {xs : List Value} (h : w.ownsRow a e size v n xs) (hab : b ≤ a) : w.ownsRow b e size v n xs := by
  obtain ⟨h1, h2⟩ := h
  refine ⟨h1, ?_⟩
  rcases h2 with h2 | ⟨g, cap, cur, h2, h3, h4⟩
  · exact .inl h2
  · exact .inr ⟨g, cap, cur, h2, Nat.le_trans hab h3, h4⟩
theorem oidPost_none {s : ByteArray} {w w' : World} (h : Od.enc s.data.toList = none) (hb : Below w.heap.size w w') : OidPost s w (.returned (.tuple #[.slice none 0 0, .int .i64 20])) w' := by
  unfold OidPost; rw [h]; exact ⟨rfl, hb⟩
theorem refbase_is (a : Int) (n : Nat) (w : World) (ha : a = n) (hn : (n : Int) ≤ 18446744073709551615) :
    Calls Tryd.prog 51 #[.int .u64 a] w fun e w' => ∃ v, e = .returned v ∧ w'.ownsRow w.heap.size 5 1 v (Od.b128 n).length (Lib.byteCells (Od.b128 n)) ∧ Below w.heap.size w w' := by
  subst ha; exact refbase_any n w hn
set_option maxHeartbeats 8000000 in
set_option maxRecDepth 100000 in
theorem refoid_any (s : ByteArray) (w : World) (hs : s.size ≤ 10000) :
    Calls Tryd.prog 19 #[.string s] w (OidPost s w) := by
  obtain ⟨i0, hi0, hz0, hz1, hz2⟩ := info_parts info_u8
  have henc : Od.enc s.data.toList = match Od.numsOf (Od.parts 46 s.data.toList) with | some ns => if Od.oidOk ns then some (Od.bytesOf ns) else none | none => none := rfl
  go_enter Tryd.func19, Tryd.ntmps19
  go_wp2_with fail
  refine (refnums_any s _ hs).mono ?_
  intro e W h
  unfold NumsPost at h
  cases hn : Od.numsOf (Od.parts 46 s.data.toList) with
  | none =>
    rw [hn] at h henc
    obtain ⟨rfl, hb⟩ := h
    have Hb := Lib.hid hb
    have Henc := Lib.hid henc
    clear hb henc hn
    go_wp2_with fail
    go_ret2
    exact oidPost_none Henc.out Hb.out
  | some ns =>
    rw [hn] at h henc
    obtain ⟨v, rfl, hrow, hb⟩ := h
    have hlen : ns.length ≤ 10001 := by
      have h1 := (numsOf_top hn).1
      have h2 := Od.parts_length_le 46 s.data.toList
      have h3 : s.size = s.data.toList.length := Lib.size_eq s
      omega
    have htop := (numsOf_top hn).2
    have hz := hb.size
    cases hok : Od.oidOk ns with
    | false =>
      replace henc : Od.enc s.data.toList = (if Od.oidOk ns then some (Od.bytesOf ns) else none) := henc
      rw [hok] at henc
      have Hb := Lib.hid hb
      have Henc := Lib.hid henc
      clear hb henc hn hrow htop hok
      go_wp2_with fail
      go_ret2
      exact oidPost_none Henc.out Hb.out
    | true =>
      replace henc : Od.enc s.data.toList = (if Od.oidOk ns then some (Od.bytesOf ns) else none) := henc
      rw [hok] at henc
      have hl2 : ¬ ns.length < 2 := by
        intro h; simp [Od.oidOk] at hok; omega
      obtain ⟨n0, n1, rest, rfl⟩ := two_of hl2
      obtain ⟨g, cap, rfl⟩ := ownsRow_succ hrow
      have hlr : (n0 :: n1 :: rest).length = rest.length + 2 := by simp
      rw [hlr] at hlen
      have hg0 : W.cell? ⟨g, 0, none⟩ = some (.int .u64 (n0 : Int)) := by
        have := hrow.cells (g := g) rfl 0 (.int .u64 (n0 : Int)) rfl
        simpa [Addr.add] using this
      have hg1 : W.cell? ⟨g, 1, none⟩ = some (.int .u64 (n1 : Int)) := by
        have := hrow.cells (g := g) rfl 1 (.int .u64 (n1 : Int)) rfl
        simpa [Addr.add] using this
      have hx0 : (n0 : Int) ≤ 2 := by
        simp only [Od.oidOk, decide_eq_true_eq, List.getD_cons_zero, List.getD_cons_succ, Od.top] at hok; omega
      have hx1 : (n1 : Int) < 9223372036854775728 := by
        simp only [Od.oidOk, decide_eq_true_eq, List.getD_cons_zero, List.getD_cons_succ, Od.top] at hok; omega
      have Htop := Lib.hid htop
      have Hrow := Lib.hid hrow
      have Hb := Lib.hid hb
      have Henc : Hid (Od.enc s.data.toList = some (accB n0 n1 rest)) := by show _ = _; rw [henc]; rfl
      clear htop hl2 hlr hrow hb hn henc hok
      go_wp2_with fail
      refine wp_region_still_tail 8 (by kernel_rfl) (by kernel_rfl) ?_
      obtain ⟨W2, hW2⟩ : ∃ W2, W2 = W.drew := ⟨_, rfl⟩
      have d5 : W2.cell? ⟨g, 0, none⟩ = some (.int .u64 (n0 : Int)) := by rw [hW2]; exact hg0
      have d6 : W2.cell? ⟨g, 1, none⟩ = some (.int .u64 (n1 : Int)) := by rw [hW2]; exact hg1
      have Hb2 : Hid (Below w.heap.size w W2) := by show Below _ _ _; rw [hW2]; exact Hb.out.drew
      have Hrow2 : Hid (W2.ownsRow w.heap.size 64 1 (.slice (some ⟨g, 0, none⟩) (rest.length + 1 + 1) cap) (rest.length + 1 + 1) (u64s (n0 :: n1 :: rest))) := by show World.ownsRow _ _ _ _ _ _ _; rw [hW2]; exact Hrow.out
      have hzz := Hb2.out.size
      change wpStill _ _ W.drew _ _ _
      rw [← hW2]
      have HW2 := Lib.hid hW2
      clear hW2 hg0 hg1 Hb Hrow
      simp only [List.take_succ_cons, List.take_zero, List.drop_succ_cons, List.drop_zero]
      have hlr1 : (1 : Int) < (rest.length : Int) + 1 + 1 := by omega
      have hlr0 : (0 : Int) < (rest.length : Int) + 1 + 1 := by omega
      repeat still_step
      refine wpStill_nil ?_
      go_wp2_with fail
      rw [← HW2.out]
      refine (refbase_is _ (40 * n0 + n1) _ (by omega) (by omega)).mono ?_
      rintro e W3 ⟨v3, rfl, hown3, hb3⟩
      have HA3 : Hid (W3.ownsRow W2.heap.size 5 1 v3 (accB n0 n1 (rest.take 0)).length (Lib.byteCells (accB n0 n1 (rest.take 0))) ∧ Below W2.heap.size W2 W3) := ⟨by simpa [accB] using hown3, hb3⟩
      clear hown3 hb3 d5 d6 hx0 hx1
      go_wp2_with fail
      go_loopw [6, 7] (fun t6 t7 wr => ∃ (k : Nat) (v1 : Value), v1 = t6 ∧ t7 = .int .i64 (k + 2) ∧ k ≤ rest.length ∧ Hid (wr.ownsRow W2.heap.size 5 1 v1 (accB n0 n1 (rest.take k)).length (Lib.byteCells (accB n0 n1 (rest.take k))) ∧ Below W2.heap.size W2 wr)) (fun _ t7 _ => rest.length + 2 - (intOf t7).toNat)
      case atStart => exact ⟨0, v3, rfl, rfl, Nat.zero_le _, HA3.out⟩
      case round =>
        obtain ⟨k, v1, rfl, rfl, hk, HA⟩ := hrel
        have hzr := HA.out.2.size
        by_cases hlt : k < rest.length
        · have hcell : wr.cell? ⟨g, k + 2, none⟩ = some (.int .u64 (rest[k] : Int)) := by
            have h1 := (own_below Hrow2.out HA.out.2).cells (g := g) rfl (2 + k) (.int .u64 (rest[k] : Int)) (by simp [u64s, Nat.add_comm 2 k, List.getElem?_eq_getElem hlt])
            rw [Nat.add_comm 2 k] at h1
            rwa [show (⟨g, 0, none⟩ : Addr).add (k + 2) = ⟨g, k + 2, none⟩ by unfold Addr.add; split <;> simp; omega] at h1
          have hnt : rest[k] < 9223372036854775808 := Htop.out rest[k] (by simp)
          have hal := accB_length n0 n1 (rest.take k)
          have hbl := Od.b128_length rest[k]
          have htl : (rest.take k).length ≤ k := List.length_take_le _ _
          have Hacc : Hid (accB n0 n1 (rest.take k) ++ Od.b128 rest[k] = accB n0 n1 (rest.take (k + 1))) := (accB_snoc n0 n1 hlt).symm
          go_wp2_with fail
          refine (refbase_is _ rest[k] _ rfl (by omega)).mono ?_
          rintro _ w5 ⟨v5, rfl, hown5, hb5⟩
          obtain ⟨A5, c5, rfl, hr5⟩ := reads_own hown5
          clear hr5
          have Hown5 := Lib.hid hown5
          have Hb5 := Lib.hid hb5
          have hz5 := hb5.size
          clear hown5 hb5
          go_wp2_with (refine wpList_cat rfl (.tmp 30) (.tmp 35) 25 rfl W2.heap.size i0 Tryd.underlying25 hi0 hz0 hz1 hz2 _ _ rfl (own_below HA.out.1 Hb5.out) _ _ rfl (own_str Hown5.out) (by omega) (by omega) ?_; intro v6 w6 A6)
          rw [Hacc.out] at A6
          go_roundw
          case rel => exact ⟨k + 1, v6, rfl, by go_num, by omega, A6.own, (HA.out.2.trans (Hb5.out.mono hzr)).trans (A6.below (own_below HA.out.1 Hb5.out) (by omega))⟩
          case measure => simp [intOf]; omega
        · have hk' : rest.take k = rest := List.take_of_length_le (by omega)
          have Hfin := HA.out
          rw [hk'] at Hfin
          have HF := Lib.hid Hfin
          clear Hfin hk'
          go_wp2_with fail
          go_ret2
          exact oidPost_some Henc.out (own_mono HF.out.1 hzz) (Hb2.out.trans (HF.out.2.mono hzz))
end Go.Proofs.YtehdbceemdpbaaaDoor
