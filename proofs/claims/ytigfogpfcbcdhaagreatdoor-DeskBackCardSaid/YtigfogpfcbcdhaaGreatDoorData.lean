/- Data in memory: a value that stands for a tree of scalars and rows, none of whose blocks is one of those that are avoided. No condition: lemmas alone. -/
import Derived.Test.YtigfogpfcbcdhaaGreatDoorWords
set_option linter.unusedVariables false
set_option linter.unusedSimpArgs false
namespace Go.Proofs.YtigfogpfcbcdhaaGreatDoor
open Go Go.RowKit
/-- A tree of scalars and rows: a row's elements have so many cells, and stand behind one another. -/
inductive D
  | leaf (v : Value)
  | row (size : Nat) (l : List D)
/-- The value stands for the tree; no block of it is one of Av. -/
inductive Is (w : World) (Av : Nat → Prop) : Value → D → Prop
  | leaf (v : Value) : Is w Av v (.leaf v)
  | row (A : Option Addr) (n c size : Nat) (xs : List Value) (l : List D) (hn : l.length = n * size) (hx : xs.length = l.length) (hz : 0 < size) (hc : n ≤ c)
      (hs : 0 < n → ∃ g o, A = some ⟨g, o, none⟩ ∧ ¬ Av g ∧ ∀ j u, xs[j]? = some u → w.cell? ⟨g, o + j, none⟩ = some u)
      (hd : ∀ (j : Nat) (u : Value) (d : D), xs[j]? = some u → l[j]? = some d → Is w Av u d) : Is w Av (.slice A n c) (.row size l)
def IsAll (w : World) (Av : Nat → Prop) (us : List Value) (ds : List D) : Prop := us.length = ds.length ∧ ∀ (j : Nat) (u : Value) (d : D), us[j]? = some u → ds[j]? = some d → Is w Av u d
section
variable {w w' : World} {Av Av' : Nat → Prop} {v : Value} {d : D}
theorem Is.keep (h : Is w Av v d) (hk : ∀ p u, ¬ Av p.block → w.cell? p = some u → w'.cell? p = some u) (ha : ∀ b, Av' b → b < w.heap.size → Av b) : Is w' Av' v d := by
  induction h with
  | leaf v => exact .leaf v
  | row A n c size xs l hn hx hz hc hs hd ih =>
    refine .row A n c size xs l hn hx hz hc (fun h0 => ?_) ih
    obtain ⟨g, o, hA, hg, hcell⟩ := hs h0
    have h1 : 0 < xs.length := by rw [hx, hn]; exact Nat.mul_pos h0 hz
    have h2 := hcell 0 _ (List.getElem?_eq_getElem h1)
    have h3 := World.block_lt_of_cell? w _ h2
    exact ⟨g, o, hA, fun h => hg (ha g h h3), fun j u hu => hk _ _ hg (hcell j u hu)⟩
theorem Is.less (h : Is w Av v d) (ha : ∀ b, Av' b → b < w.heap.size → Av b) : Is w Av' v d := h.keep (fun _ _ _ h => h) ha
theorem Is.stays (h : Is w Av v d) (hb : Below w.heap.size w w') : Is w' Av v d := h.keep (fun p _ _ hp => (hb.cell (World.block_lt_of_cell? w p hp)).trans hp) (fun _ h _ => h)
theorem Is.drew (h : Is w Av v d) : Is w.drew Av v d := h.keep (fun _ _ _ h => h) (fun _ h _ => h)
theorem Is.drewN (h : Is w Av v d) (n : Nat) : Is (w.drewN n) Av v d := h.keep (fun _ _ _ h => h) (fun _ h _ => h)
theorem Is.alloc (h : Is w Av v d) (o : Obj) : Is (w.alloc o) Av v d := h.keep (fun p _ _ hp => (World.cell?_alloc_lt w o p (World.block_lt_of_cell? w p hp)).trans hp) (fun _ h _ => h)
theorem Is.setCell (h : Is w Av v d) {p : Addr} (hp : Av p.block) (u : Value) : Is (w.setCell p u) Av v d :=
  h.keep (fun q _ hq hc => (World.cell?_setCell_other w p q u (fun e => by subst e; exact hq hp)).trans hc) (fun _ h _ => h)
theorem Is.grown (h : Is w Av v d) {row : Option Nat} (hg : w.grownBy w' row) (hr : ∀ g, row = some g → Av g) : Is w' Av v d :=
  h.keep (fun _ _ hp hc => hg.cell hc (fun e => hp (hr _ e.symm))) (fun _ h _ => h)
/-- Blocks that are not yet there are avoided besides. -/
theorem Is.fresh (h : Is w Av v d) {p : Nat → Prop} (hp : ∀ b, p b → w.heap.size ≤ b) : Is w (fun b => Av b ∨ p b) v d :=
  h.less (fun b hb hl => by
    rcases hb with hb | hb
    · exact hb
    · have := hp b hb; omega)
end

section
variable {w w' : World} {Av Av' : Nat → Prop} {us vs : List Value} {ds es : List D}
theorem IsAll.nil_ : IsAll w Av [] [] := ⟨rfl, fun j u _ h => by simp at h⟩
theorem IsAll.cons_ {u : Value} {d : D} (h : Is w Av u d) (k : IsAll w Av us ds) : IsAll w Av (u :: us) (d :: ds) :=
  ⟨by simp [k.1], fun j x y hx hy => by
    match j with
    | 0 => simp at hx hy; subst hx; subst hy; exact h
    | j + 1 => exact k.2 j x y (by simpa using hx) (by simpa using hy)⟩
theorem IsAll.uncons {d : D} (h : IsAll w Av us (d :: ds)) : ∃ u us', us = u :: us' ∧ Is w Av u d ∧ IsAll w Av us' ds := by
  match us, h with
  | [], h => exact absurd h.1 (by simp)
  | u :: us, h => exact ⟨u, us, rfl, h.2 0 u d rfl rfl, by simpa using h.1, fun j x y hx hy => h.2 (j + 1) x y (by simpa using hx) (by simpa using hy)⟩
theorem IsAll.unnil (h : IsAll w Av us []) : us = [] := List.eq_nil_of_length_eq_zero h.1
theorem IsAll.keep (h : IsAll w Av us ds) (hk : ∀ (u : Value) (d : D), Is w Av u d → Is w' Av' u d) : IsAll w' Av' us ds := ⟨h.1, fun j u d hu hd => hk u d (h.2 j u d hu hd)⟩
theorem IsAll.app (h : IsAll w Av us ds) (k : IsAll w Av vs es) : IsAll w Av (us ++ vs) (ds ++ es) :=
  ⟨by simp [h.1, k.1], fun j u d hu hd => by
    rcases Nat.lt_or_ge j us.length with hj | hj
    · rw [List.getElem?_append_left hj] at hu
      rw [List.getElem?_append_left (by have := h.1; omega)] at hd
      exact h.2 j u d hu hd
    · rw [List.getElem?_append_right hj] at hu
      rw [List.getElem?_append_right (by have := h.1; omega), ← h.1] at hd
      exact k.2 _ u d hu hd⟩
theorem IsAll.drop (h : IsAll w Av us ds) (k : Nat) : IsAll w Av (us.drop k) (ds.drop k) :=
  ⟨by simp [h.1], fun j u d hu hd => h.2 (k + j) u d (by simpa using hu) (by simpa using hd)⟩
theorem IsAll.take (h : IsAll w Av us ds) (k : Nat) : IsAll w Av (us.take k) (ds.take k) :=
  ⟨by simp [h.1], fun j u d hu hd => h.2 j u d (by rw [List.getElem?_take] at hu; split at hu <;> simp_all) (by rw [List.getElem?_take] at hd; split at hd <;> simp_all)⟩
theorem Is.row_ {A : Option Addr} {n c size : Nat} (hn : ds.length = n * size) (hz : 0 < size) (hc : n ≤ c) (ha : IsAll w Av us ds)
    (hs : 0 < n → ∃ g o, A = some ⟨g, o, none⟩ ∧ ¬ Av g ∧ ∀ j u, us[j]? = some u → w.cell? ⟨g, o + j, none⟩ = some u) : Is w Av (.slice A n c) (.row size ds) :=
  .row A n c size us ds hn ha.1 hz hc hs ha.2
theorem Is.open_row {v : Value} {size : Nat} (h : Is w Av v (.row size ds)) : ∃ A n c xs, v = .slice A n c ∧ ds.length = n * size ∧ n ≤ c ∧ 0 < size ∧ IsAll w Av xs ds ∧
    (0 < n → ∃ g o, A = some ⟨g, o, none⟩ ∧ ¬ Av g ∧ ∀ j u, xs[j]? = some u → w.cell? ⟨g, o + j, none⟩ = some u) := by
  cases h with
  | row A n c size xs l hn hx hz hc hs hd => exact ⟨A, n, c, xs, rfl, hn, hc, hz, ⟨hx, hd⟩, hs⟩
end
theorem flatMap_len {α : Type} {f : α → List D} {size : Nat} (hf : ∀ a, (f a).length = size) (l : List α) : (l.flatMap f).length = l.length * size := by
  induction l with
  | nil => simp
  | cons a l ih => rw [List.flatMap_cons, List.length_append, ih, hf, List.length_cons, Nat.add_mul, Nat.one_mul, Nat.add_comm]
theorem flatMap_at {α : Type} {f : α → List D} {size : Nat} (hf : ∀ a, (f a).length = size) : ∀ (l : List α) (k : Nat) (hk : k < l.length), ((l.flatMap f).drop (k * size)).take size = f l[k]
  | a :: l, 0, _ => by simp [List.flatMap_cons, ← hf a]
  | a :: l, k + 1, hk => by
    have := flatMap_at hf l k (by simpa using hk)
    rw [List.flatMap_cons, Nat.add_mul, Nat.one_mul, Nat.add_comm, ← List.drop_drop, List.drop_left' (hf a), this]; rfl
/-- A row of elements, each of which has so many cells: the element at a place. -/
theorem Is.elems {α : Type} {f : α → List D} {size : Nat} {w : World} {Av : Nat → Prop} {v : Value} {l : List α} (h : Is w Av v (.row size (l.flatMap f))) (hf : ∀ a, (f a).length = size) :
    ∃ A c, v = .slice A l.length c ∧ l.length ≤ c ∧ ∀ k (hk : k < l.length), ∃ g o us, A = some ⟨g, o, none⟩ ∧ ¬ Av g ∧ IsAll w Av us (f l[k]) ∧ ∀ j u, us[j]? = some u → w.cell? ⟨g, o + (k * size + j), none⟩ = some u := by
  obtain ⟨A, n, c, xs, rfl, hn, hc, hz, ha, hs⟩ := h.open_row
  rw [flatMap_len hf] at hn
  obtain rfl : l.length = n := Nat.eq_of_mul_eq_mul_right hz hn
  refine ⟨A, c, rfl, hc, fun k hk => ?_⟩
  obtain ⟨g, o, hA, hg, hcell⟩ := hs (by omega)
  refine ⟨g, o, (xs.drop (k * size)).take size, hA, hg, by rw [← flatMap_at hf l k hk]; exact (ha.drop _).take _, fun j u hu => hcell _ u ?_⟩
  rw [List.getElem?_take] at hu
  split at hu
  · rw [List.getElem?_drop] at hu; exact hu
  · cases hu

/-! ### bytes -/
def bytesD (l : List UInt8) : D := .row 1 (l.map fun b => .leaf (.int .u8 (b.toNat : Int)))
theorem Is.leaf_eq {w : World} {Av : Nat → Prop} {u v : Value} (h : Is w Av u (.leaf v)) : u = v := by cases h; rfl
theorem IsAll.leaves {w : World} {Av : Nat → Prop} {us vs : List Value} (h : IsAll w Av us (vs.map .leaf)) : us = vs := by
  refine List.ext_getElem? fun j => ?_
  rcases Nat.lt_or_ge j us.length with hj | hj
  · have hv : j < vs.length := by have := h.1; simp at this; omega
    have := (h.2 j us[j] (.leaf vs[j]) (List.getElem?_eq_getElem hj) (by simp [List.getElem?_eq_getElem hv])).leaf_eq
    rw [List.getElem?_eq_getElem hj, List.getElem?_eq_getElem hv, this]
  · have hv : vs.length ≤ j := by have := h.1; simp at this; omega
    rw [List.getElem?_eq_none hj, List.getElem?_eq_none hv]
theorem IsAll.leaf (w : World) (Av : Nat → Prop) (vs : List Value) : IsAll w Av vs (vs.map .leaf) :=
  ⟨by simp, fun j u d hu hd => by
    rw [List.getElem?_map, hu] at hd
    simp at hd; subst hd; exact .leaf u⟩
/-- A row of scalars: it can be read, and lies in no avoided block. -/
theorem Is.leafRow {w : World} {Av : Nat → Prop} {v : Value} {vs : List Value} (h : Is w Av v (.row 1 (vs.map .leaf))) :
    ∃ A c, v = .slice A vs.length c ∧ vs.length ≤ c ∧ Reads w w.heap.size 1 A vs.length vs ∧ (0 < vs.length → ∃ g o, A = some ⟨g, o, none⟩ ∧ ¬ Av g) := by
  obtain ⟨A, n, c, xs, rfl, hn, hc, hz, ha, hs⟩ := h.open_row
  obtain rfl : vs.length = n := by simpa using hn
  obtain rfl := ha.leaves
  refine ⟨A, c, rfl, hc, ⟨by simp, fun h0 => ?_⟩, fun h0 => ?_⟩
  · obtain ⟨g, o, hA, _, hcell⟩ := hs h0
    refine ⟨_, hA, ?_, fun j u hu => ?_⟩
    · exact World.block_lt_of_cell? w _ (hcell 0 _ (List.getElem?_eq_getElem h0))
    · have := hcell j u hu
      unfold Addr.add
      split
      · rename_i hj; subst hj; exact this
      · exact this
  · obtain ⟨g, o, hA, hg, _⟩ := hs h0
    exact ⟨g, o, hA, hg⟩
theorem Is.ofReads {w : World} {Av : Nat → Prop} {B n c : Nat} {A : Option Addr} {vs : List Value} (h : Reads w B 1 A n vs) (hc : n ≤ c) (hA : ∀ ad, A = some ad → ¬ Av ad.block) : Is w Av (.slice A n c) (.row 1 (vs.map .leaf)) := by
  refine Is.row_ (us := vs) (by have := h.1; simp; omega) (by decide) hc (.leaf _ _ _) fun h0 => ?_
  obtain ⟨ad, rfl, hb, hcell⟩ := h.2 h0
  have h1 : 0 < vs.length := by have := h.1; omega
  have h2 := hcell 0 _ (List.getElem?_eq_getElem h1)
  have h3 := World.cell?_spot h2
  obtain ⟨g, o, sp⟩ := ad
  simp [Addr.add] at h3
  subst h3
  refine ⟨g, o, rfl, hA _ rfl, fun j u hu => ?_⟩
  have := hcell j u hu
  unfold Addr.add at this
  split at this
  · rename_i hj; subst hj; exact this
  · exact this
theorem bytesD_eq (l : List UInt8) : bytesD l = .row 1 ((Lib.byteCells l).map .leaf) := by unfold bytesD Lib.byteCells; rw [List.map_map]; rfl
theorem Is.bytes {w : World} {Av : Nat → Prop} {v : Value} {l : List UInt8} (h : Is w Av v (bytesD l)) :
    ∃ A c, v = .slice A l.length c ∧ l.length ≤ c ∧ Reads w w.heap.size 1 A l.length (Lib.byteCells l) ∧ (0 < l.length → ∃ g o, A = some ⟨g, o, none⟩ ∧ ¬ Av g) := by
  rw [bytesD_eq] at h
  have := h.leafRow
  rwa [Lib.byteCells_length] at this
theorem Is.ofBytes {w : World} {Av : Nat → Prop} {B c : Nat} {A : Option Addr} {l : List UInt8} (h : Reads w B 1 A l.length (Lib.byteCells l)) (hc : l.length ≤ c) (hA : ∀ ad, A = some ad → ¬ Av ad.block) : Is w Av (.slice A l.length c) (bytesD l) := by
  rw [bytesD_eq]; exact .ofReads h hc hA
end Go.Proofs.YtigfogpfcbcdhaaGreatDoor
