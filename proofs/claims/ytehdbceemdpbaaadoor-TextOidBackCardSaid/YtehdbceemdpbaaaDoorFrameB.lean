/- An argument of type []byte: opened, and shut behind the call. -/
import Derived.Test.YtehdbceemdpbaaaDoorFrame
import Derived.Carry
import Derived.ChangeSlices
namespace Go.Proofs.YtehdbceemdpbaaaDoor
open Go Go.ChangeShapes Go.WideShapes Go.ChangeAt Go.RowKit

theorem laidOut8 : laidOutB Tryd.prog = true := by kernel_rfl
theorem cells8 : Tryd.prog.cellsOf 5 = 1 := by kernel_rfl
theorem wf_u8 {x : Int} (h : (Lit.int .u8 x).wf = true) : 0 ≤ x ∧ x < 256 := by
  have h1 : IntKind.u8.min = 0 := rfl
  have h2 : IntKind.u8.max = 255 := rfl
  simp only [Lit.wf, Bool.and_eq_true, decide_eq_true_eq] at h
  omega
/-- An argument of type []byte, nil or not: its bytes. -/
theorem opened_u8 {H : Type} {enc : TypeId × Value → H} {W : World} {a0 : Option Addr} {len cap : Nat} {d0 : DataW H} {p : List MemPlace}
    (h0 : DataW.Trod enc Tryd.prog W 0 (fun _ => true) true 25 (.slice a0 len cap) d0 p) :
    ∃ b : List UInt8, b.length = len ∧ len ≤ maxLen ∧ Reads W W.heap.size 1 a0 b.length (Lib.byteCells b) := by
  obtain ⟨fuel, hf⟩ := h0
  rcases open_ints Tryd.underlying25 Tryd.underlying5 cells8 hf with ⟨hcs, hx⟩ | ⟨a, len', cap', zs, hcs, _, hl, hm, hz, hx, hcell, hwz⟩
  · simp [Value.cells] at hcs
    obtain ⟨rfl, rfl, rfl⟩ := hcs
    exact ⟨[], rfl, Nat.zero_le _, Reads.none_⟩
  · simp [Value.cells] at hcs
    obtain ⟨rfl, rfl, rfl⟩ := hcs
    simp only [if_true] at hz
    have hlen : ((zs.take len).map fun n => UInt8.ofNat n.toNat).length = len := by simp; omega
    refine ⟨(zs.take len).map fun n => UInt8.ofNat n.toNat, hlen, by omega, by rw [Lib.byteCells_length, hlen]; omega, fun h0 => ?_⟩
    rw [hlen] at h0
    have hc0 := hcell 0 (by omega)
    have hb0 := World.block_lt_of_cell? W _ hc0
    rw [block_of_add] at hb0
    refine ⟨a, rfl, hb0, fun j u hu => ?_⟩
    have hj : j < len := by
      have := (List.getElem?_eq_some_iff.1 hu).1
      rw [Lib.byteCells_length, hlen] at this; exact this
    rw [hcell j (by omega), ← hu]
    have hw := wf_u8 (hwz (zs[j]'(by omega)) (List.getElem_mem _))
    have e : (zs.take len)[j]? = some (zs[j]'(by omega)) := by rw [List.getElem?_take, if_pos hj, List.getElem?_eq_getElem (by omega)]
    have e2 : (UInt8.ofNat (zs[j]'(by omega)).toNat).toNat = (zs[j]'(by omega)).toNat := by rw [UInt8.toNat_ofNat']; omega
    simp only [Lib.byteCells, List.getElem?_map, e, Option.map_some, e2]
    rw [List.getD_eq_getElem?_getD, List.getElem?_eq_getElem (by omega)]
    congr 2
    show (zs[j]'(by omega)) = (((zs[j]'(by omega)).toNat : Nat) : Int)
    omega
end Go.Proofs.YtehdbceemdpbaaaDoor
