/- The walks of the law's small helpers: own, back; the reference's Same, of one line twice; its Size. -/
import Derived.Test.YtigfogpfcbcdhaaGreatDoorDeskQ
set_option linter.unusedVariables false
set_option linter.unusedSimpArgs false
namespace Go.Proofs.YtigfogpfcbcdhaaGreatDoor
open Go Go.RowKit
theorem noLine_at (w : World) (Av : Nat → Prop) : LineAt w Av noLine ⟨[], [], []⟩ := by
  refine ⟨_, _, rfl, ?_, ?_⟩
  · exact Is.row_ (us := []) (by simp) (by decide) (by simp) ⟨rfl, fun j u d hu => by simp at hu⟩ (fun h => by simp at h)
  · exact Is.row_ (us := []) (by simp) (by decide) (by simp) ⟨rfl, fun j u d hu => by simp at hu⟩ (fun h => by simp at h)
theorem own_ret (tmps : Array Value) (w : World) {P : Nat} {cs : Array Value} {c0 c1 c2 : Value} (hB : Blk w P 26 cs) (hc : cs = #[c0, c1, c2]) (h2 : tmps[2]?.getD undef = .pointer (some ⟨P, 0, none⟩)) :
    (results Tryz.f14 tmps).run Tryz.prog w = .ok (.agg #[c0, c1, c2]) w := by
  subst hc
  have g0 : w.cell? ⟨P, 0, none⟩ = some c0 := by rw [hB.cell]; rfl
  have g1 : w.cell? ⟨P, 1, none⟩ = some c1 := by rw [hB.cell]; rfl
  have g2 : w.cell? ⟨P, 2, none⟩ = some c2 := by rw [hB.cell]; rfl
  simp [results, Tryz.results14, go_sem, h2, g0, g1, g2]
set_option maxHeartbeats 2000000 in
theorem own_any (v : Value) (l : Dk.Ln) (Av : Nat → Prop) (w : World) (h : LineAt w Av v l) : Calls Tryz.prog 14 #[v] w fun e w' => e = .returned v ∧ Below w.heap.size w w' := by
  obtain ⟨vn, vb, rfl, hn, hb⟩ := h
  obtain ⟨An, cn, rfl, _⟩ := hn.nums
  obtain ⟨Ab, cb, rfl, _⟩ := hb.rows
  clear hn hb
  have hB1 : Below w.heap.size w ((w.alloc (.cells #[.string ⟨l.word.toArray⟩, .slice An l.nums.length cn, .slice Ab l.bytes.length cb] 30)).alloc (.cells #[.string ⟨l.word.toArray⟩, .slice An l.nums.length cn, .slice Ab l.bytes.length cb] 26)) := ((Below.refl _ w).alloc (Nat.le_refl _) _).alloc (by simp) _
  have hK := Blk.new (w.alloc (.cells #[.string ⟨l.word.toArray⟩, .slice An l.nums.length cn, .slice Ab l.bytes.length cb] 30)) 26 #[.string ⟨l.word.toArray⟩, .slice An l.nums.length cn, .slice Ab l.bytes.length cb]
  rw [World.size_alloc] at hK
  have HB1 := Lib.hid hB1
  have HK := Lib.hid hK
  clear hB1 hK
  go_enter Tryz.func14, Tryz.ntmps14
  go_wp2_with fail
  refine bodyPost_ret (v := .agg #[.string ⟨l.word.toArray⟩, .slice An l.nums.length cn, .slice Ab l.bytes.length cb]) (own_ret _ _ HK.out rfl rfl) rfl ⟨rfl, HB1.out⟩
theorem back_ret (tmps : Array Value) (w : World) {P : Nat} {cs : Array Value} {c0 c1 c2 : Value} (hB : Blk w P 30 cs) (hc : cs = #[c0, c1, c2]) (h2 : tmps[2]?.getD undef = .pointer (some ⟨P, 0, none⟩)) :
    (results Tryz.f11 tmps).run Tryz.prog w = .ok (.agg #[c0, c1, c2]) w := by
  subst hc
  have g0 : w.cell? ⟨P, 0, none⟩ = some c0 := by rw [hB.cell]; rfl
  have g1 : w.cell? ⟨P, 1, none⟩ = some c1 := by rw [hB.cell]; rfl
  have g2 : w.cell? ⟨P, 2, none⟩ = some c2 := by rw [hB.cell]; rfl
  simp [results, Tryz.results11, go_sem, h2, g0, g1, g2]
set_option maxHeartbeats 2000000 in
theorem back_any (v : Value) (l : Dk.Ln) (Av : Nat → Prop) (w : World) (h : LineAt w Av v l) : Calls Tryz.prog 11 #[v] w fun e w' => e = .returned v ∧ Below w.heap.size w w' := by
  obtain ⟨vn, vb, rfl, hn, hb⟩ := h
  obtain ⟨An, cn, rfl, _⟩ := hn.nums
  obtain ⟨Ab, cb, rfl, _⟩ := hb.rows
  clear hn hb
  have hB1 : Below w.heap.size w ((w.alloc (.cells #[.string ⟨l.word.toArray⟩, .slice An l.nums.length cn, .slice Ab l.bytes.length cb] 26)).alloc (.cells #[.string ⟨l.word.toArray⟩, .slice An l.nums.length cn, .slice Ab l.bytes.length cb] 30)) := ((Below.refl _ w).alloc (Nat.le_refl _) _).alloc (by simp) _
  have hK := Blk.new (w.alloc (.cells #[.string ⟨l.word.toArray⟩, .slice An l.nums.length cn, .slice Ab l.bytes.length cb] 26)) 30 #[.string ⟨l.word.toArray⟩, .slice An l.nums.length cn, .slice Ab l.bytes.length cb]
  rw [World.size_alloc] at hK
  have HB1 := Lib.hid hB1
  have HK := Lib.hid hK
  clear hB1 hK
  go_enter Tryz.func11, Tryz.ntmps11
  go_wp2_with fail
  refine bodyPost_ret (v := .agg #[.string ⟨l.word.toArray⟩, .slice An l.nums.length cn, .slice Ab l.bytes.length cb]) (back_ret _ _ HK.out rfl rfl) rfl ⟨rfl, HB1.out⟩
set_option maxHeartbeats 4000000 in
set_option maxRecDepth 100000 in
theorem same_eq (va vb : Value) (l : Dk.Ln) (Av Bv : Nat → Prop) (w : World) (ha : LineAt w Av va l) (hb : LineAt w Bv vb l) (hf : Fine l) :
    Calls Tryz.prog 10 #[va, vb] w fun e w' => e = .returned (.bool true) ∧ Below w.heap.size w w' := by
  obtain ⟨v1, v2, rfl, h1, h2⟩ := ha
  obtain ⟨u1, u2, rfl, k1, k2⟩ := hb
  obtain ⟨A1, c1, rfl, hc1, hn1⟩ := h1.nums
  obtain ⟨B1, d1, rfl, hd1, hm1⟩ := k1.nums
  obtain ⟨A2, c2, rfl, hc2, hn2⟩ := h2.rows
  obtain ⟨B2, d2, rfl, hd2, hm2⟩ := k2.rows
  obtain ⟨n, hn⟩ : ∃ n, n = l.nums.length := ⟨_, rfl⟩
  obtain ⟨m, hm⟩ : ∃ m, m = l.bytes.length := ⟨_, rfl⟩
  have hn9 : n ≤ 100000 := by rw [hn]; exact hf.nn
  have hm9 : m ≤ 100000 := by rw [hm]; exact hf.nb
  rw [← hn, ← hm]
  obtain ⟨W, hW⟩ : ∃ W : ByteArray, W = ⟨l.word.toArray⟩ := ⟨_, rfl⟩
  rw [← hW]
  have Hn := Lib.hid hn
  have Hm := Lib.hid hm
  have H1 := Lib.hid hn1
  have K1 := Lib.hid hm1
  have H2 := Lib.hid hn2
  have K2 := Lib.hid hm2
  have HB0 : Hid (Below w.heap.size w ((w.alloc (.cells #[.string W, .slice A1 n c1, .slice A2 m c2] 30)).alloc (.cells #[.string W, .slice B1 n d1, .slice B2 m d2] 30))) := ((Below.refl _ w).alloc (Nat.le_refl _) _).alloc (by simp) _
  clear hn1 hm1 hn2 hm2 h1 h2 k1 k2 hc1 hc2 hd1 hd2 hn hm hW
  go_enter Tryz.func10, Tryz.ntmps10
  go_wp2_with fail
  obtain ⟨V, hV⟩ : ∃ V, V = (w.alloc (.cells #[.string W, .slice A1 n c1, .slice A2 m c2] 30)).alloc (.cells #[.string W, .slice B1 n d1, .slice B2 m d2] 30) := ⟨_, rfl⟩
  have hKA : Blk V w.heap.size 30 #[.string W, .slice A1 n c1, .slice A2 m c2] := by rw [hV]; exact (Blk.new w _ _).alloc _
  have hKB : Blk V (w.heap.size + 1) 30 #[.string W, .slice B1 n d1, .slice B2 m d2] := by
    rw [hV]; have := Blk.new (w.alloc (.cells #[.string W, .slice A1 n c1, .slice A2 m c2] 30)) 30 #[.string W, .slice B1 n d1, .slice B2 m d2]; rwa [World.size_alloc] at this
  rw [← hV] at HB0 ⊢
  have HKA := Lib.hid hKA
  have HKB := Lib.hid hKB
  clear hKA hKB hV
  go_loopw [5] (fun t5 wr => ∃ i : Nat, t5 = .int .i64 i ∧ i ≤ n ∧ Hid (Below V.heap.size V wr)) (fun t5 _ => n - (intOf t5).toNat)
  case atStart => exact ⟨0, rfl, Nat.zero_le _, Below.refl _ _⟩
  case round =>
    obtain ⟨i, rfl, hi, HW⟩ := hrel
    have b1 : wr.cell? ⟨w.heap.size, 1, none⟩ = some (.slice A1 n c1) := by rw [(HKA.out.below HW.out HKA.out.lt).cell]; rfl
    have b2 : wr.cell? ⟨w.heap.size + 1, 1, none⟩ = some (.slice B1 n d1) := by rw [(HKB.out.below HW.out HKB.out.lt).cell]; rfl
    by_cases hin : i < n
    · have hin1 : decide ((i : Int) < (n : Int)) = true := decide_eq_true (by omega)
      obtain ⟨g, o, rfl, _, e1⟩ := H1.out i (by rw [← Hn.out]; exact hin)
      obtain ⟨g2, o2, rfl, _, e2⟩ := K1.out i (by rw [← Hn.out]; exact hin)
      obtain ⟨x, hx⟩ : ∃ x, x = l.nums[i]'(by rw [← Hn.out]; exact hin) := ⟨_, rfl⟩
      rw [← hx] at e1 e2
      have e3 := cell_stays HW.out (cell_stays HB0.out e1)
      have e4 := cell_stays HW.out (cell_stays HB0.out e2)
      clear e1 e2 hx
      have HW2 : Hid (∀ nq, Below V.heap.size V (wr.drewN nq)) := fun nq => below_drewN HW.out nq
      go_wp2_with fail
      go_quiet (fail)
      go_wp2_with fail
      go_roundw
      case rel => exact ⟨i + 1, by go_num, by omega, HW2.out _⟩
      case measure => simp [intOf]; omega
    · have hin1 : decide ((i : Int) < (n : Int)) = false := decide_eq_false (by omega)
      have hin2 : decide (i < n) = false := decide_eq_false hin
      clear hin
      go_wp2_with fail
      clear b1 b2
      go_loopw [6] (fun t6 wr => ∃ i : Nat, t6 = .int .i64 i ∧ i ≤ m ∧ Hid (Below V.heap.size V wr)) (fun t6 _ => m - (intOf t6).toNat)
      case atStart => exact ⟨0, rfl, Nat.zero_le _, HW.out⟩
      case round =>
        obtain ⟨i, rfl, hi, HW⟩ := hrel
        have b1 : wr.cell? ⟨w.heap.size, 2, none⟩ = some (.slice A2 m c2) := by rw [(HKA.out.below HW.out HKA.out.lt).cell]; rfl
        have b2 : wr.cell? ⟨w.heap.size + 1, 2, none⟩ = some (.slice B2 m d2) := by rw [(HKB.out.below HW.out HKB.out.lt).cell]; rfl
        by_cases hin : i < m
        · have hin1 : decide ((i : Int) < (m : Int)) = true := decide_eq_true (by omega)
          obtain ⟨g, o, A', c', rfl, _, e1, _, r1⟩ := H2.out i (by rw [← Hm.out]; exact hin)
          obtain ⟨g2, o2, A'', c'', rfl, _, e2, _, r2⟩ := K2.out i (by rw [← Hm.out]; exact hin)
          obtain ⟨x, hx⟩ : ∃ x, x = l.bytes[i]'(by rw [← Hm.out]; exact hin) := ⟨_, rfl⟩
          rw [← hx] at e1 e2 r1 r2
          have e3 := cell_stays HW.out (cell_stays HB0.out e1)
          have e4 := cell_stays HW.out (cell_stays HB0.out e2)
          have r3 : Reads wr w.heap.size 1 A' x.length (Lib.byteCells x) := (r1.keep (fun p hp => HB0.out.cell hp)).keep (fun p hp => HW.out.cell (by have := HB0.out.size; omega))
          have r4 : Reads wr w.heap.size 1 A'' x.length (Lib.byteCells x) := (r2.keep (fun p hp => HB0.out.cell hp)).keep (fun p hp => HW.out.cell (by have := HB0.out.size; omega))
          have X1 : ∀ q, (convert 52 9 (.slice A' x.length c')).run Tryz.prog (wr.drewN q) = .ok (.string ⟨x.toArray⟩) (wr.drewN q) := fun q => run_tostr (c := c') Tryz.underlying52 Tryz.underlying5 Tryz.underlying9 (show Reads (wr.drewN q) w.heap.size 1 A' x.length (Lib.byteCells x) from r3)
          have X2 : ∀ q, (convert 52 9 (.slice A'' x.length c'')).run Tryz.prog (wr.drewN q) = .ok (.string ⟨x.toArray⟩) (wr.drewN q) := fun q => run_tostr (c := c'') Tryz.underlying52 Tryz.underlying5 Tryz.underlying9 (show Reads (wr.drewN q) w.heap.size 1 A'' x.length (Lib.byteCells x) from r4)
          have HW2 : Hid (∀ nq, Below V.heap.size V (wr.drewN nq)) := fun nq => below_drewN HW.out nq
          clear e1 e2 hx r1 r2 r3 r4
          go_wp2_with fail
          go_quiet (fail)
          go_wp2_with fail
          go_roundw
          case rel => exact ⟨i + 1, by go_num, by omega, HW2.out _⟩
          case measure => simp [intOf]; omega
        · have hin1 : decide ((i : Int) < (m : Int)) = false := decide_eq_false (by omega)
          have hin2 : decide (i < m) = false := decide_eq_false hin
          clear hin
          go_wp2_with fail
          go_ret
          exact ⟨rfl, HB0.out.trans (HW.out.mono HB0.out.size)⟩
end Go.Proofs.YtigfogpfcbcdhaaGreatDoor
