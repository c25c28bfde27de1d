/- The walk of the reference's bytes of a text: of any text. Condition: the text is short. -/
import Derived.Test.YtigfogpfcbcdhaaGreatDoorRefE
import Derived.StillTailTactics
import Derived.Deep.RegionLaw
set_option linter.unusedVariables false
set_option linter.unusedSimpArgs false
namespace Go.Proofs.YtigfogpfcbcdhaaGreatDoor
open Go Go.RowKit
namespace Dk
theorem ubR_odd : ∀ (n : Nat) (l : Bs) (c : UInt8), l.length = 2 * n → ubR (l ++ [c]) = ubR l
  | 0, l, c, h => by
    obtain rfl : l = [] := List.eq_nil_of_length_eq_zero (by omega)
    simp [ubR]
  | n + 1, l, c, h => by
    match l, h with
    | a :: b :: l, h => simp only [List.cons_append, ubR]; rw [ubR_odd n l c (by simp at h; omega)]
    | [a], h => simp at h; omega
    | [], h => simp at h
end Dk
theorem refdigit_still (c : UInt8) (w : World) : Calls Tryz.prog 46 #[.int .u8 (c.toNat : Int)] w fun e w' => e = .returned (.int .i64 (Dk.digR c : Nat)) ∧ w' = w :=
  (refdigit_any c w).mono fun _ _ ⟨h, hw⟩ => ⟨h, hw.symm⟩
theorem ub_next (s : ByteArray) (j : Nat) (h : 2 * j + 1 < s.size) : Dk.ubR (s.data.toList.take (2 * (j + 1))) = Dk.ubR (s.data.toList.take (2 * j)) ++ [UInt8.ofNat (Dk.digR s[2 * j] * 16 + Dk.digR s[2 * j + 1])] := by
  have hl : s.data.toList.length = s.size := rfl
  have e1 : s.data.toList.take (2 * j + 1) = s.data.toList.take (2 * j) ++ [s[2 * j]] := List.take_succ_eq_append_getElem (l := s.data.toList) (by omega)
  have e2 : s.data.toList.take (2 * (j + 1)) = s.data.toList.take (2 * j) ++ [s[2 * j], s[2 * j + 1]] := by
    rw [show 2 * (j + 1) = 2 * j + 1 + 1 by omega, show s.data.toList.take (2 * j + 1 + 1) = s.data.toList.take (2 * j + 1) ++ [s[2 * j + 1]] from List.take_succ_eq_append_getElem (l := s.data.toList) h, e1, List.append_assoc]; rfl
  rw [e2, Dk.ubR_snoc j _ _ _ (by rw [List.length_take]; omega)]
theorem ub_end (s : ByteArray) (j : Nat) (h : ¬ 2 * j + 1 < s.size) (h2 : 2 * j ≤ s.size) : Dk.ubR (s.data.toList.take (2 * j)) = Dk.ubR s.data.toList := by
  have hl : s.data.toList.length = s.size := rfl
  rcases (show s.size = 2 * j ∨ s.size = 2 * j + 1 by omega) with h3 | h3
  · rw [List.take_of_length_le (by omega)]
  · have e : s.data.toList = s.data.toList.take (2 * j) ++ [s.data.toList[2 * j]'(by omega)] := by
      rw [← List.take_succ_eq_append_getElem (by omega), List.take_of_length_le (by omega)]
    conv => rhs; rw [e]
    rw [Dk.ubR_odd j _ _ (by rw [List.length_take]; omega)]
/-- 'out = append(out, c)' inside a region that draws its order. -/
theorem step_push {P : Program} {ops : Array Oper} {o : Oper} {a : Act} {K : Act → World → Prop} {Q : Exit → Act → World → Prop} {E : Prop} (hgd : o.guard = none) (s x : Operand) (t : TypeId)
    (ho : o.op = .call { callee := .builtin .append, args := #[s, x], argTypes := #[t, t] }) (base : Nat) (i : TypeInfo) (ht : P.underlying t = some (.slice 5)) (hi : P.info? 5 = some i) (hz : i.zero = some (.int .u8 0))
    (hsize : i.size = 1) (hby : i.bytes = 1) (v : Value) (l : List UInt8) (hs : a.eval s = v) (W : World) (hown : W.ownsRow base 5 1 v l.length (Lib.byteCells l))
    (c : UInt8) (g cap : Nat) (hg : g < W.heap.size) (hc : W.cell? ⟨g, 0, none⟩ = some (.int .u8 (c.toNat : Int))) (hx : a.eval x = .slice (some ⟨g, 0, none⟩) 1 cap) (hl : l.length ≤ 100000000) (hbase : base ≤ W.heap.size)
    (h : ∀ v' w', AppB base W w' v v' (l ++ [c]) → K (a.put o.dst v') w') : if Region.wanted o (yielded ops a.tmps) = true then Oper.wp P o a W K Q else E := by
  have hr : Reads W (g + 1) 1 (some ⟨g, 0, none⟩) 1 [.int .u8 (c.toNat : Int)] :=
    ⟨rfl, fun _ => ⟨_, rfl, by simp, fun j u hu => by
      match j, hu with
      | 0, hu => simp at hu; subst hu; simpa [Addr.add] using hc⟩⟩
  refine step_append_any W hgd s x t ho base 5 i _ 1 1 ht hi hz hsize hby rfl (by omega) v l.length (Lib.byteCells l) hs hown _ _ 1 cap _ hx hr (by intro u hu; simp at hu; subst hu; rfl) (by simp only [maxLen]; omega) (by omega) hbase (fun v' w' h1 h2 h3 => h v' w' ⟨?_, h2, ?_⟩)
  · have : Lib.byteCells (l ++ [c]) = Lib.byteCells l ++ [.int .u8 (c.toNat : Int)] := by simp [Lib.byteCells]
    rw [this, List.length_append]
    exact h1
  · intro g hg
    rcases h3 with h3 | h3
    · exact .inl (by rw [← h3]; exact hg)
    · rw [h3] at hg; injection hg with hg; subst hg; exact .inr (Nat.le_refl _)
set_option maxHeartbeats 2000000 in
set_option maxRecDepth 100000 in
theorem bytesOf_any (s : ByteArray) (w : World) (hs : s.size ≤ 60000) :
    Calls Tryz.prog 25 #[.string s] w fun e w' => ∃ v, e = .returned v ∧ w'.ownsRow w.heap.size 5 1 v (Dk.ubR s.data.toList).length (Lib.byteCells (Dk.ubR s.data.toList)) ∧ Below w.heap.size w w' := by
  obtain ⟨i0, hi0, hz0, hz1, hz2⟩ := info_parts infoU8
  go_enter Tryz.func25, Tryz.ntmps25
  go_wp2_with fail
  go_loopw [3, 4] (fun t3 t4 wr => ∃ (j i : Nat) (v : Value), v = t3 ∧ t4 = .int .i64 i ∧ i ≤ s.size ∧ Hid (i = 2 * j ∧ AppB w.heap.size w wr (.slice none 0 0) v (Dk.ubR (s.data.toList.take i)))) (fun _ t4 _ => s.size - (intOf t4).toNat)
  case atStart => exact ⟨0, 0, _, rfl, rfl, by omega, rfl, app_start _ _⟩
  case round =>
    obtain ⟨j, i, t3, rfl, rfl, hi, HI⟩ := hrel
    have hsz := HI.out.2.grown.size
    have Hil : Hid ((Dk.ubR (s.data.toList.take i)).length ≤ 100000000) := by
      show _ ≤ _; rw [Dk.ubR_length, List.length_take]; omega
    have hi2 : (i : Int) < 131076 := by omega
    by_cases hp : i + 1 < s.size
    · have hp1 : ((i : Int) + 1) < (s.size : Int) := by omega
      obtain ⟨a, ha⟩ : ∃ a : UInt8, a = s[i] := ⟨_, rfl⟩
      obtain ⟨b, hb⟩ : ∃ b : UInt8, b = s[i + 1] := ⟨_, rfl⟩
      have Hn : Hid (∀ v' w', AppB w.heap.size wr w' t3 v' (Dk.ubR (s.data.toList.take i) ++ [UInt8.ofNat (Dk.digR a * 16 + Dk.digR b)]) → AppB w.heap.size w w' (.slice none 0 0) v' (Dk.ubR (s.data.toList.take (i + 2)))) := by
        intro v' w' h
        have h2 := HI.out.2.trans h
        have hij := HI.out.1
        subst hij
        have e := ub_next s j hp
        rw [ha, hb] at h2
        rw [← e] at h2
        exact h2
      have hda := Dk.digR_lt a
      have hdb := Dk.digR_lt b
      have hlt : i < s.size := by omega
      have ha2 : s[i] = a := ha.symm
      have hb2 : s[i + 1] = b := hb.symm
      clear ha hb
      have hw1 : IntKind.i64.wrap ((i : Int) + 1) = (i : Int) + 1 := IntWalk.i64_in _ (by omega)
      have hw2 : (0 : Int) ≤ (i : Int) + 1 := by omega
      have hw3 : ((i : Int) + 1).toNat = i + 1 := by omega
      have hw4 : IntKind.i64.wrap ((Dk.digR a : Int) * 16) = (Dk.digR a : Int) * 16 := IntWalk.i64_in _ (by omega)
      have hw5 : IntKind.i64.wrap ((Dk.digR a : Int) * 16 + (Dk.digR b : Int)) = (Dk.digR a : Int) * 16 + (Dk.digR b : Int) := IntWalk.i64_in _ (by omega)
      go_wp2_with fail
      have Hc : Hid (∀ (q : Bool) (W : World), W.heap = (wr.alloc (.cells #[.int .u8 (IntKind.u8.wrap ((Dk.digR a : Int) * 16 + (Dk.digR b : Int)))] 5)).heap → W.cell? ⟨wr.heap.size, 0, none⟩ = some (.int .u8 ((UInt8.ofNat (Dk.digR a * 16 + Dk.digR b)).toNat : Int)) ∧ W.ownsRow w.heap.size 5 1 t3 (Dk.ubR (s.data.toList.take i)).length (Lib.byteCells (Dk.ubR (s.data.toList.take i)))) := by
        intro _ W hW
        refine ⟨?_, ?_⟩
        · have h1 : W.cell? ⟨wr.heap.size, 0, none⟩ = (wr.alloc (.cells #[.int .u8 (IntKind.u8.wrap ((Dk.digR a : Int) * 16 + (Dk.digR b : Int)))] 5)).cell? ⟨wr.heap.size, 0, none⟩ := World.cell?_of_block (by rw [hW])
          rw [h1, World.cell?_alloc_new]
          have e : IntKind.u8.wrap ((Dk.digR a : Int) * 16 + (Dk.digR b : Int)) = ((UInt8.ofNat (Dk.digR a * 16 + Dk.digR b)).toNat : Int) := by
            rw [IntKind.wrap_u8, UInt8.toNat_ofNat']; omega
          rw [e]; rfl
        · have h1 := (HI.out.2.own.alloc (.cells #[.int .u8 (IntKind.u8.wrap ((Dk.digR a : Int) * 16 + (Dk.digR b : Int)))] 5))
          refine ⟨h1.1, ?_⟩
          rw [hW]
          exact h1.2
      have Hn2 : Hid (∀ (W : World) v' w', W.heap = (wr.alloc (.cells #[.int .u8 (IntKind.u8.wrap ((Dk.digR a : Int) * 16 + (Dk.digR b : Int)))] 5)).heap ∧ W.os = wr.os ∧ W.tape = wr.tape ∧ W.output = wr.output → AppB w.heap.size W w' t3 v' (Dk.ubR (s.data.toList.take i) ++ [UInt8.ofNat (Dk.digR a * 16 + Dk.digR b)]) → AppB w.heap.size w w' (.slice none 0 0) v' (Dk.ubR (s.data.toList.take (i + 2)))) := by
        intro W v' w' hW h
        have hz : W.heap.size = wr.heap.size + 1 := by rw [hW.1]; simp
        have hg : wr.grownBy W t3.ownBlock := ⟨hW.2.1, hW.2.2.1, hW.2.2.2, by omega, fun k hk _ => by rw [hW.1]; exact Below.heap_alloc wr _ k hk⟩
        exact Hn.out v' w' ⟨h.own, grown_trans2 hg h.grown (fun g hg => .inl hg), fun g hg => by
          rcases h.blk g hg with h1 | h1
          · exact .inl h1
          · exact .inr (by omega)⟩
      go_region_law (first | (refine step_push rfl (.tmp 16) (.tmp 29) 52 rfl w.heap.size i0 Tryz.underlying52 hi0 hz0 hz1 hz2 t3 _ rfl _ (Hc.out true _ rfl).2 (UInt8.ofNat (Dk.digR a * 16 + Dk.digR b)) wr.heap.size 1 (by simp) (Hc.out true _ rfl).1 rfl Hil.out (by simp; omega) ?_; intro v2 w2 A2) | (go_simp; go_at_call 46; refine (refdigit_any _ _).mono ?_; rintro e wq ⟨rfl, rfl⟩))
      all_goals
        clear hw1 hw2 hw3 hw4 hw5
        go_wp2_with fail
        go_roundw
        case rel => exact ⟨j + 1, i + 2, v2, rfl, by go_num, by omega, by have := HI.out.1; omega, Hn2.out _ _ _ (by exact ⟨rfl, rfl, rfl, rfl⟩) A2⟩
        case measure => simp [intOf]; omega
    · have hp1 : ¬ ((i : Int) + 1) < (s.size : Int) := by omega
      have Hf : Hid (Dk.ubR (s.data.toList.take i) = Dk.ubR s.data.toList) := by
        show _ = _
        have hij := HI.out.1
        subst hij
        exact ub_end s j hp hi
      have HO : Hid (wr.ownsRow w.heap.size 5 1 t3 (Dk.ubR s.data.toList).length (Lib.byteCells (Dk.ubR s.data.toList))) := by
        have := HI.out.2.own; rw [Hf.out] at this; exact this
      have Hb := Lib.hid (HI.out.2.below (nil8 _ _) (Nat.le_refl _))
      go_wp2_with fail
      go_ret
      exact ⟨_, rfl, HO.out, Hb.out⟩
end Go.Proofs.YtigfogpfcbcdhaaGreatDoor
