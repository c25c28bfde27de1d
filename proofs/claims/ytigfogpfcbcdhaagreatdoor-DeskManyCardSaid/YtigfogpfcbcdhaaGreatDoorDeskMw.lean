/- The walk of the statement about many lines. -/
import Derived.Test.YtigfogpfcbcdhaaGreatDoorDeskMp
import Derived.Test.YtigfogpfcbcdhaaGreatDoorDeskLn
import Derived.Test.YtigfogpfcbcdhaaGreatDoorDeskK
import Derived.Deep.Cut
import Derived.Lib.SmallJoins
set_option linter.unusedVariables false
set_option linter.unusedSimpArgs false
namespace Go.Proofs.YtigfogpfcbcdhaaGreatDoor
open Go Go.RowKit
set_option maxRecDepth 100000 in
theorem among1100 (n : Int) (w : World) (h0 : -9223372036854775808 ≤ n) (h1 : n ≤ 9223372036854775807) :
    Calls Tryz.prog 16 #[.int .i64 n, .int .i64 1100] w fun e w' => ∃ u : Int, e = .returned (.int .i64 u) ∧ 0 ≤ u ∧ u < 1100 ∧ w = w' := by
  have h2 := Int.lt_tmod_of_pos n (b := 1100) (by omega)
  have h3 := Int.tmod_lt_of_pos n (b := 1100) (by omega)
  obtain ⟨r, hr⟩ : ∃ r, r = n.tmod 1100 := ⟨_, rfl⟩
  by_cases hn : 0 ≤ n
  · have h4 : 0 ≤ n % 1100 := Int.emod_nonneg _ (by omega)
    have h5 : n % 1100 < 1100 := Int.emod_lt_of_pos _ (by omega)
    clear h2 h3 hr
    go_enter Tryz.func16, Tryz.ntmps16
    go_wp2_with fail
    go_ret
    exact ⟨_, rfl, h4, h5, rfl⟩
  · rw [← hr] at h2 h3
    by_cases hr0 : r < 0
    · rw [hr] at hr0 h2 h3
      go_enter Tryz.func16, Tryz.ntmps16
      go_wp2_with fail
      go_ret
      exact ⟨_, rfl, by omega, by omega, rfl⟩
    · rw [hr] at hr0 h2 h3
      go_enter Tryz.func16, Tryz.ntmps16
      go_wp2_with fail
      go_ret
      exact ⟨_, rfl, by omega, by omega, rfl⟩
theorem strCells_at {ps : List (List UInt8)} {j : Nat} {p : List UInt8} (h : ps[j]? = some p) : (strCells ps)[j]? = some (.string ⟨p.toArray⟩) := by
  unfold strCells; rw [List.getElem?_map, h]; rfl
set_option maxHeartbeats 4000000 in
set_option maxRecDepth 100000 in
theorem deskMany_walk (n : Int) (en : Bool) (w : World) (h0 : -9223372036854775808 ≤ n) (h1 : n ≤ 9223372036854775807) (he : Env w) :
    Calls Tryz.prog 6 #[.int .i64 n, .bool en] w fun e w' => e = .returned (.bool true) ∧ Below w.heap.size w w' := by
  have HE := Lib.hid he
  clear he
  go_enter Tryz.func6, Tryz.ntmps6
  go_wp2_with fail
  refine (among1100 n w h0 h1).mono ?_
  rintro e w' ⟨u, rfl, hu0, hu1, rfl⟩
  obtain ⟨k, rfl⟩ := Int.eq_ofNat_of_zero_le hu0
  have hk : k < 1100 := by omega
  clear hu0 hu1 h0 h1
  go_wp2_with fail
  go_loop [5, 6] (fun t5 t6 => ∃ (i : Nat) (S : ByteArray), t5 = .string S ∧ t6 = .int .i64 i ∧ i ≤ k ∧ S.size ≤ 6 * i ∧ Hid (S.data.toList = Dk.times Dk.startL i)) (fun _ t6 => k - (intOf t6).toNat)
  case atStart => exact ⟨0, ⟨#[]⟩, rfl, rfl, Nat.zero_le _, Nat.le_refl _, rfl⟩
  case round =>
    obtain ⟨i, S, rfl, rfl, hi, hz, HS⟩ := hrel
    by_cases hin : i < k
    · have hin1 : decide ((i : Int) < (k : Int)) = true := decide_eq_true (by omega)
      have hz2 : (S ++ (⟨#[115, 116, 97, 114, 116, 10]⟩ : ByteArray)).size ≤ 6 * (i + 1) := by
        rw [ByteArray.size_append]
        have : (⟨#[115, 116, 97, 114, 116, 10]⟩ : ByteArray).size = 6 := rfl
        omega
      have HS2 : Hid ((S ++ (⟨#[115, 116, 97, 114, 116, 10]⟩ : ByteArray)).data.toList = Dk.times Dk.startL (i + 1)) := by
        show _ = _
        rw [Dk.times_snoc, ← HS.out]; simp [ByteArray.data_append, Dk.startL]
      go_wp2_with fail
      go_round
      case rel => exact ⟨i + 1, _, rfl, by go_num, by omega, hz2, HS2⟩
      case measure => simp [intOf]; omega
    · have hin1 : decide ((i : Int) < (k : Int)) = false := decide_eq_false (by omega)
      have hin2 : decide (i < k) = false := decide_eq_false hin
      obtain rfl : i = k := by omega
      clear hin hi
      have hz9 : S.size ≤ 7000 := by omega
      go_upto_if 21 with fail
      go_cut [5, 7] from 22 (fun s5 s7 wx => ∃ (S2 : ByteArray) (M : Nat), s5 = .string S2 ∧ s7 = .int .i64 M ∧ M ≤ 1101 ∧ S2.size ≤ 8000 ∧ Hid (S2.data.toList = Dk.manyS i en ∧ M = Dk.manyN i en) ∧ w = wx)
      case first =>
        cases en with
        | true =>
          have HS3 : Hid ((S ++ (⟨#[120]⟩ : ByteArray)).data.toList = Dk.manyS i true ∧ i + 1 = Dk.manyN i true) := ⟨by unfold Dk.manyS; rw [if_pos rfl, ← HS.out]; simp [ByteArray.data_append], rfl⟩
          have hz3 : (S ++ (⟨#[120]⟩ : ByteArray)).size ≤ 8000 := by
            rw [ByteArray.size_append]
            have : (⟨#[120]⟩ : ByteArray).size = 1 := rfl
            omega
          go_wp2_with fail
          go_meet
          exact ⟨_, i + 1, rfl, by go_num, by omega, hz3, HS3, rfl⟩
        | false =>
          have HS3 : Hid (S.data.toList = Dk.manyS i false ∧ i = Dk.manyN i false) := ⟨by unfold Dk.manyS; simp [HS.out], rfl⟩
          go_wp2_with fail
          go_meet
          exact ⟨_, i, rfl, rfl, by omega, by omega, HS3, rfl⟩
      case rest =>
      obtain ⟨S2, M, rfl, rfl, hM, hz2, HS2, rfl⟩ := hcut
      clear hz HS hz9
      go_wp2_with fail
      refine (many_run S2 i en _ HS2.out.1 (by omega) (by omega) HE.out).mono ?_
      rintro e w1 ⟨hb1, hr⟩
      have HB1 := Lib.hid hb1
      have HE1 : Hid (Env w1) := HE.out.stays hb1
      rw [← HS2.out.2] at hr
      clear hb1
      rcases hr with ⟨hm, rfl⟩ | ⟨hm, o, rfl, ho, hl⟩
      · have hm1 : decide ((1000 : Int) < (M : Int)) = true := decide_eq_true (by omega)
        have hm2 : decide (1000 < M) = true := decide_eq_true hm
        clear hm
        go_wp2_with fail
        refine (known_any w1 HE1.out).mono ?_
        rintro e w2 ⟨rfl, hb2⟩
        go_wp2_with fail
        go_ret
        exact ⟨rfl, HB1.out.trans (hb2.mono HB1.out.size)⟩
      · have hm1 : decide ((1000 : Int) < (M : Int)) = false := decide_eq_false (by omega)
        have hm2 : decide (1000 < M) = false := decide_eq_false (by omega)
        have Hl := Lib.hid hl
        clear hl
        go_wp2_with fail
        refine (reflines_any o w1 (by omega)).mono ?_
        rintro e w2 ⟨v, rfl, hv, hb2⟩
        rw [Hl.out] at hv
        have HB2 := Lib.hid (HB1.out.trans (hb2.mono HB1.out.size))
        have HE2 : Hid (Env w2) := HE1.out.stays hb2
        have hlen : (Dk.manyR i en).length = M := by rw [Dk.manyR_length, ← HS2.out.2]
        rw [hlen] at hv
        clear hb2 hlen
        have hend : ∀ w2 : World, Hid (Env w2) → Hid (Below w.heap.size w w2) → Calls Tryz.prog 7 #[] w2 fun e w3 => e = .returned (.bool true) ∧ Below w.heap.size w w3 := fun w2 he hb => (known_any w2 he.out).mono (by rintro e w3 ⟨rfl, h3⟩; exact ⟨rfl, hb.out.trans (h3.mono hb.out.size)⟩)
        cases en with
        | false =>
          obtain rfl : M = i := HS2.out.2
          by_cases hi0 : M = 0
          · subst hi0
            rcases Joins.ownsRow_forms hv with ⟨rfl, _⟩ | ⟨g, cap, rfl⟩
            · clear hv
              go_wp2_with fail
              refine (hend w2 HE2 HB2).mono ?_
              rintro e w3 ⟨rfl, hb3⟩
              go_wp2_with fail
              go_ret
              exact ⟨rfl, hb3⟩
            · clear hv
              go_wp2_with fail
              refine (hend w2 HE2 HB2).mono ?_
              rintro e w3 ⟨rfl, hb3⟩
              go_wp2_with fail
              go_ret
              exact ⟨rfl, hb3⟩
          · obtain ⟨j, rfl⟩ : ∃ j, M = j + 1 := ⟨M - 1, by omega⟩
            rcases Joins.ownsRow_forms hv with ⟨rfl, h0⟩ | ⟨g, cap, rfl⟩
            · omega
            · have hc := (hv.cellAt j (by omega)).trans (strCells_at (Dk.manyR_ok false (Nat.lt_succ_self j)))
              have hj0 : ((j : Int) + 1 == 0) = false := by rw [beq_eq_false_iff_ne]; omega
              have hj1 : (((j + 1 : Nat) : Int) == 0) = false := by rw [beq_eq_false_iff_ne]; omega
              clear hv hi0
              go_wp2_with fail
              refine (hend w2 HE2 HB2).mono ?_
              rintro e w3 ⟨rfl, hb3⟩
              go_wp2_with fail
              go_ret
              exact ⟨rfl, hb3⟩
        | true =>
          obtain rfl : M = i + 1 := HS2.out.2
          have he := strCells_at (Dk.manyR_err i)
          rcases Joins.ownsRow_forms hv with ⟨rfl, h0⟩ | ⟨g, cap, rfl⟩
          · omega
          · have hc2 := (hv.cellAt i (by omega)).trans he
            by_cases hi0 : i = 0
            · subst hi0
              clear hv he
              go_wp2_with fail
              refine (hend w2 HE2 HB2).mono ?_
              rintro e w3 ⟨rfl, hb3⟩
              go_wp2_with fail
              go_ret
              exact ⟨rfl, hb3⟩
            · obtain ⟨j, rfl⟩ : ∃ j, i = j + 1 := ⟨i - 1, by omega⟩
              have hc := (hv.cellAt j (by omega)).trans (strCells_at (Dk.manyR_ok true (Nat.lt_succ_self j)))
              have hj0 : ((j : Int) + 1 == 0) = false := by rw [beq_eq_false_iff_ne]; omega
              have hj1 : (((j + 1 : Nat) : Int) == 0) = false := by rw [beq_eq_false_iff_ne]; omega
              clear hv he hi0
              go_wp2_with fail
              refine (hend w2 HE2 HB2).mono ?_
              rintro e w3 ⟨rfl, hb3⟩
              go_wp2_with fail
              go_ret
              exact ⟨rfl, hb3⟩
end Go.Proofs.YtigfogpfcbcdhaaGreatDoor
