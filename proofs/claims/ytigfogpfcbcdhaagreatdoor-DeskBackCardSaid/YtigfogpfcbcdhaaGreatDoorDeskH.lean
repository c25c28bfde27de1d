/- The walk of the desk's hex: bytes as text. Its condition: the bytes can be read. -/
import Derived.Test.YtigfogpfcbcdhaaGreatDoorDeskA
import Derived.Test.YtigfogpfcbcdhaaGreatDoorBuildB
set_option linter.unusedVariables false
set_option linter.unusedSimpArgs false
namespace Go.Proofs.YtigfogpfcbcdhaaGreatDoor
open Go Go.RowKit
theorem reads_at {w : World} {B : Nat} {A : Option Addr} {l : List UInt8} {k : Nat} (h : Reads w B 1 A l.length (Lib.byteCells l)) (hk : k < l.length) :
    ∃ ad, A = some ad ∧ ad.block < B ∧ w.cell? (ad.add k) = some (.int .u8 (l[k].toNat : Int)) := by
  obtain ⟨ad, hA, hb, hc⟩ := h.2 (by omega)
  exact ⟨ad, hA, hb, hc k _ (by simp [Lib.byteCells, List.getElem?_eq_getElem hk])⟩
theorem hexd_at : ∀ n : Fin 16, (⟨#[48, 49, 50, 51, 52, 53, 54, 55, 56, 57, 97, 98, 99, 100, 101, 102]⟩ : ByteArray)[n.val]'n.isLt = Dk.hexd n.val := by decide +kernel
namespace Dk
theorem hexL_take_succ (b : Bs) (k : Nat) (h : k < b.length) : hexL (b.take (k + 1)) = hexL (b.take k) ++ [hexd (b[k].toNat / 16), hexd (b[k].toNat % 16)] := by
  rw [List.take_succ_eq_append_getElem h, hexL_append]; rfl
end Dk
set_option maxHeartbeats 2000000 in
set_option maxRecDepth 100000 in
theorem hex_any (A : Option Addr) (c : Nat) (b : List UInt8) (w : World) (hr : Reads w w.heap.size 1 A b.length (Lib.byteCells b)) (hl : b.length ≤ 1000000) :
    Calls Tryz.prog 27 #[.slice A b.length c] w fun e w' => e = .returned (.string ⟨(Dk.hexT b).toArray⟩) ∧ Below w.heap.size w w' := by
  by_cases h0 : b = []
  · subst h0
    clear hr
    go_enter Tryz.func27, Tryz.ntmps27
    go_wp2_with fail
    go_ret
    exact ⟨rfl, Below.refl _ _⟩
  · have Hfin : Hid (Dk.hexT b = Dk.hexL b) := by show _ = _; unfold Dk.hexT; rw [if_neg h0]
    have HR := Lib.hid hr
    have hlen : 0 < b.length := List.length_pos_iff.2 h0
    have hz0 : ((b.length : Int) == 0) = false := beq_eq_false_iff_ne.2 (by omega)
    clear hr h0
    go_enter Tryz.func27, Tryz.ntmps27
    go_wp2_with fail
    go_loopw [11] (fun t11 wr => ∃ k : Nat, t11 = .int .i64 k ∧ k ≤ b.length ∧ Hid (Lib.IsBuilderF 98 5 w.heap.size w.heap.size (Lib.byteCells (Dk.hexL (b.take k))) wr ∧ Below w.heap.size w wr)) (fun t11 _ => b.length - (intOf t11).toNat)
    case atStart => exact ⟨0, rfl, by omega, Lib.IsBuilderF.of (Lib.fresh_isBuilder 98 5 w), (Below.refl _ w).alloc (Nat.le_refl _) _⟩
    case round =>
      obtain ⟨k, rfl, hk, HI⟩ := hrel
      have hsz := HI.out.2.size
      by_cases hp : k < b.length
      · obtain ⟨ad, rfl, hab, hcell⟩ := reads_at (HR.out.keep (fun p hp => HI.out.2.cell hp)) hp
        obtain ⟨x, hx⟩ : ∃ x : Nat, x = b[k].toNat := ⟨_, rfl⟩
        rw [← hx] at hcell
        have hx8 : x < 256 := by rw [hx]; exact UInt8.toNat_lt _
        have Hx := Lib.hid hx
        clear hx
        have H1 := Lib.hid (hexd_at ⟨x / 16, by omega⟩)
        have H2 := Lib.hid (hexd_at ⟨x % 16, by omega⟩)
        have Hn : Hid (∀ W, Lib.BuilderAtF 98 5 w.heap.size w.heap.size (.pointer (some ⟨w.heap.size, 0, none⟩)) (Lib.byteCells (Dk.hexL (b.take k)) ++ [.int .u8 ((Dk.hexd (x / 16)).toNat : Int)] ++ [.int .u8 ((Dk.hexd (x % 16)).toNat : Int)]) W → Lib.IsBuilderF 98 5 w.heap.size w.heap.size (Lib.byteCells (Dk.hexL (b.take (k + 1)))) W) := by
          intro W h
          rw [Dk.hexL_take_succ b k hp, ← Hx.out]
          exact Or.inr (by simpa [Lib.byteCells] using h)
        have hll : (Lib.byteCells (Dk.hexL (b.take k))).length ≤ 2000000 := by
          rw [Lib.byteCells_length, Dk.hexL_length, List.length_take]; omega
        go_wp2_with fail
        refine (writeByte_k w.heap.size w.heap.size _ _ _ HI.out.1 (by omega) (by omega)).mono ?_
        rintro e W1 ⟨rfl, g1, b1, k1⟩
        rw [H1.out] at g1
        have G1 := Lib.hid g1
        have B1 := Lib.hid b1
        have hz1 := b1.size
        clear g1 b1 k1
        go_wp2_with fail
        refine (writeByte_k w.heap.size w.heap.size _ _ _ (Or.inr G1.out) (by rw [List.length_append, List.length_singleton]; omega) (by omega)).mono ?_
        rintro e W2 ⟨rfl, g2, b2, k2⟩
        rw [H2.out] at g2
        have G2 := Lib.hid (Hn.out _ g2)
        have B2 := Lib.hid (HI.out.2.trans (B1.out.trans b2))
        clear g2 b2 k2
        go_wp2_with fail
        go_roundw
        case rel => exact ⟨k + 1, by go_num, by omega, G2.out, B2.out⟩
        case measure => simp [intOf]; omega
      · obtain rfl : k = b.length := by omega
        have HS := Lib.hid HI.out.1
        rw [List.take_length] at HS
        go_wp2_with fail
        refine (Tryz.Builder_String_any_k w.heap.size w.heap.size (Dk.hexL b) _ HS.out (by omega)).mono ?_
        rintro e W1 ⟨rfl, _, b1, _⟩
        go_wp2_with fail
        go_ret
        exact ⟨by rw [Hfin.out]; rfl, HI.out.2.trans b1⟩
end Go.Proofs.YtigfogpfcbcdhaaGreatDoor
