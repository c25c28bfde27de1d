/- Lines in memory: rows of numbers, rows of rows of bytes; what each of them gives at its head, and what is left behind it. No condition: lemmas alone. -/
import Derived.Test.YtigfogpfcbcdhaaGreatDoorData
import Derived.Test.YtigfogpfcbcdhaaGreatDoorDeskR
set_option linter.unusedVariables false
set_option linter.unusedSimpArgs false
namespace Go.Proofs.YtigfogpfcbcdhaaGreatDoor
open Go Go.RowKit
def numsD (ns : List Int) : D := .row 1 (ns.map fun n => .leaf (.int .i64 n))
def rowsD (bs : List (List UInt8)) : D := .row 1 (bs.map bytesD)
def strsD (bs : List (List UInt8)) : D := .row 1 (bs.map fun b => .leaf (.string ⟨b.toArray⟩))
abbrev NoAv : Nat → Prop := fun _ => False
section
variable {w : World} {Av : Nat → Prop} {v : Value}
/-- A row of one-cell elements: its cells. -/
theorem Is.row1 {l : List D} (h : Is w Av v (.row 1 l)) : ∃ A c xs, v = .slice A l.length c ∧ l.length ≤ c ∧ IsAll w Av xs l ∧ (0 < l.length → ∃ g o, A = some ⟨g, o, none⟩ ∧ ¬ Av g ∧ ∀ j u, xs[j]? = some u → w.cell? ⟨g, o + j, none⟩ = some u) := by
  obtain ⟨A, n, c, xs, rfl, hn, hc, _, ha, hs⟩ := h.open_row
  obtain rfl : l.length = n := by omega
  exact ⟨A, c, xs, rfl, hc, ha, hs⟩
/-- What 's[k:]' of a row of one-cell elements is. -/
theorem Is.drop1 {A : Option Addr} {n c k : Nat} {l : List D} (h : Is w Av (.slice A n c) (.row 1 l)) (hk : k ≤ n) : Is w Av (.slice (if c = k then A else A.map (·.add (k * 1))) (n - k) (c - k)) (.row 1 (l.drop k)) := by
  obtain ⟨A', c', xs, e, hc, ha, hs⟩ := h.row1
  injection e with e1 e2 e3
  subst e1 e2 e3
  refine Is.row_ (us := xs.drop k) (by simp) (by decide) (by omega) (ha.drop k) fun h0 => ?_
  obtain ⟨g, o, rfl, hg, hcell⟩ := hs (by omega)
  rw [if_neg (by omega)]
  refine ⟨g, o + k, ?_, hg, fun j u hu => ?_⟩
  · simp only [Option.map_some, Addr.add]
    split
    · rename_i hz; simp at hz; subst hz; rfl
    · simp
  · rw [List.getElem?_drop] at hu
    have := hcell (k + j) u hu
    rwa [← Nat.add_assoc] at this
theorem Is.nums {ns : List Int} (h : Is w Av v (numsD ns)) : ∃ A c, v = .slice A ns.length c ∧ ns.length ≤ c ∧ ∀ k (hk : k < ns.length), ∃ g o, A = some ⟨g, o, none⟩ ∧ ¬ Av g ∧ w.cell? ⟨g, o + k, none⟩ = some (.int .i64 ns[k]) := by
  obtain ⟨A, c, xs, rfl, hc, ha, hs⟩ := Is.row1 h
  rw [List.length_map] at hc hs ⊢
  refine ⟨A, c, rfl, hc, fun k hk => ?_⟩
  obtain ⟨g, o, hA, hg, hcell⟩ := hs (by omega)
  refine ⟨g, o, hA, hg, hcell k _ ?_⟩
  have hx : k < xs.length := by rw [ha.1, List.length_map]; exact hk
  rw [List.getElem?_eq_getElem hx, (ha.2 k xs[k] (.leaf (.int .i64 ns[k])) (List.getElem?_eq_getElem hx) (by simp [List.getElem?_eq_getElem hk])).leaf_eq]
theorem Is.strs {bs : List (List UInt8)} (h : Is w Av v (strsD bs)) : ∃ A c, v = .slice A bs.length c ∧ bs.length ≤ c ∧ ∀ k (hk : k < bs.length), ∃ g o, A = some ⟨g, o, none⟩ ∧ ¬ Av g ∧ w.cell? ⟨g, o + k, none⟩ = some (.string ⟨bs[k].toArray⟩) := by
  obtain ⟨A, c, xs, rfl, hc, ha, hs⟩ := Is.row1 h
  rw [List.length_map] at hc hs ⊢
  refine ⟨A, c, rfl, hc, fun k hk => ?_⟩
  obtain ⟨g, o, hA, hg, hcell⟩ := hs (by omega)
  refine ⟨g, o, hA, hg, hcell k _ ?_⟩
  have hx : k < xs.length := by rw [ha.1, List.length_map]; exact hk
  rw [List.getElem?_eq_getElem hx, (ha.2 k xs[k] (.leaf (.string ⟨bs[k].toArray⟩)) (List.getElem?_eq_getElem hx) (by simp [List.getElem?_eq_getElem hk])).leaf_eq]
theorem Is.rows {bs : List (List UInt8)} (h : Is w Av v (rowsD bs)) : ∃ A c, v = .slice A bs.length c ∧ bs.length ≤ c ∧ ∀ k (hk : k < bs.length), ∃ g o A' c', A = some ⟨g, o, none⟩ ∧ ¬ Av g ∧ w.cell? ⟨g, o + k, none⟩ = some (.slice A' bs[k].length c') ∧ bs[k].length ≤ c' ∧ Reads w w.heap.size 1 A' bs[k].length (Lib.byteCells bs[k]) := by
  obtain ⟨A, c, xs, rfl, hc, ha, hs⟩ := Is.row1 h
  rw [List.length_map] at hc hs ⊢
  refine ⟨A, c, rfl, hc, fun k hk => ?_⟩
  obtain ⟨g, o, hA, hg, hcell⟩ := hs (by omega)
  have hx : k < xs.length := by rw [ha.1, List.length_map]; exact hk
  obtain ⟨A', c', hv, hc', hr, _⟩ := (ha.2 k xs[k] (bytesD bs[k]) (List.getElem?_eq_getElem hx) (by simp [List.getElem?_eq_getElem hk])).bytes
  refine ⟨g, o, A', c', hA, hg, ?_, hc', hr⟩
  rw [← hv]
  exact hcell k _ (List.getElem?_eq_getElem hx)
theorem Is.numsDrop {A : Option Addr} {n c : Nat} {ns : List Int} (h : Is w Av (.slice A n c) (numsD ns)) (k : Nat) (hk : k ≤ n) : Is w Av (.slice (if c = k then A else A.map (·.add (k * 1))) (n - k) (c - k)) (numsD (ns.drop k)) := by
  have := Is.drop1 h hk
  rwa [← List.map_drop] at this
theorem Is.rowsDrop {A : Option Addr} {n c : Nat} {bs : List (List UInt8)} (h : Is w Av (.slice A n c) (rowsD bs)) (k : Nat) (hk : k ≤ n) : Is w Av (.slice (if c = k then A else A.map (·.add (k * 1))) (n - k) (c - k)) (rowsD (bs.drop k)) := by
  have := Is.drop1 h hk
  rwa [← List.map_drop] at this
end
/-- A line in memory: what a struct of its three fields is. -/
def LineAt (w : World) (Av : Nat → Prop) (v : Value) (l : Dk.Ln) : Prop := ∃ vn vb, v = .agg #[.string ⟨l.word.toArray⟩, vn, vb] ∧ Is w Av vn (numsD l.nums) ∧ Is w Av vb (rowsD l.bytes)
/-- What the walks ask of a line: its numbers are some, and no part is long. -/
structure Fine (l : Dk.Ln) : Prop where
  nums : Dk.In64 l.nums
  nn : l.nums.length ≤ 100000
  nb : l.bytes.length ≤ 100000
  lb : ∀ b ∈ l.bytes, b.length ≤ 65536
end Go.Proofs.YtigfogpfcbcdhaaGreatDoor
