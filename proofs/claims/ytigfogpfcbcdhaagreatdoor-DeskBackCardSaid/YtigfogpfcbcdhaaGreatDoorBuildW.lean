/- strings.Builder, its bytes in a row that lies beyond a bound of its own: WriteString, WriteByte, and what they leave as it was. -/
import Derived.Test.YtigfogpfcbcdhaaGreatDoorBuildB
set_option linter.unusedVariables false
set_option linter.unusedSimpArgs false
namespace Go.Proofs.YtigfogpfcbcdhaaGreatDoor
open Go Go.RowKit
/-- The builder in the block b holds bs; its row lies from base on. -/
def BR (b base : Nat) (bs : List Value) (w : World) : Prop :=
  ∃ p v, (p = .pointer none ∨ p = .pointer (some ⟨b, 0, none⟩)) ∧ w.heap[b]? = some (.cells #[p, v] 98 (0, 0)) ∧ w.ownsRowF base 5 1 v bs.length bs ∧ v.ownBlock ≠ some b
/-- What a write leaves. -/
structure Wrote (b base : Nat) (w w' : World) : Prop where
  os : w'.os = w.os
  tape : w'.tape = w.tape
  output : w'.output = w.output
  size : w.heap.size ≤ w'.heap.size
  low : ∀ i, i < w.heap.size → i ≠ b → i < base → w'.heap[i]? = w.heap[i]?
  others : Lib.OthersKept 5 (some b) w w'
theorem Wrote.trans {b base : Nat} {A B C : World} (h : Wrote b base A B) (k : Wrote b base B C) : Wrote b base A C :=
  ⟨k.os.trans h.os, k.tape.trans h.tape, k.output.trans h.output, Nat.le_trans h.size k.size, fun i hi hb hl => (k.low i (Nat.lt_of_lt_of_le hi h.size) hb hl).trans (h.low i hi hb hl), h.others.trans k.others⟩
theorem Wrote.below {b base n₀ : Nat} {w w' : World} (h : Wrote b base w w') (hb : n₀ ≤ b) (hl : n₀ ≤ base) (hn : n₀ ≤ w.heap.size) : Below n₀ w w' :=
  ⟨h.os, h.tape, h.output, h.size, fun k hk => h.low k (by omega) (by omega) (by omega)⟩
theorem BR.lt {b base : Nat} {bs : List Value} {w : World} (h : BR b base bs w) : b < w.heap.size := by
  obtain ⟨p, v, _, hb, _⟩ := h
  rcases Nat.lt_or_ge b w.heap.size with h' | h'
  · exact h'
  · simp [Array.getElem?_eq_none h'] at hb
theorem BR.raise {b base base' : Nat} {w : World} (h : BR b base [] w) : BR b base' [] w ∨ ∃ p v, w.heap[b]? = some (.cells #[p, v] 98 (0, 0)) ∧ v ≠ .slice none 0 0 := by
  obtain ⟨p, v, hp, hb, ho, hn⟩ := h
  by_cases hv : v = .slice none 0 0
  · subst hv
    exact .inl ⟨p, _, hp, hb, ⟨rfl, .inl ⟨rfl, rfl⟩⟩, by simp [Value.ownBlock]⟩
  · exact .inr ⟨p, v, hb, hv⟩
theorem BR.builder {b base B : Nat} {bs : List Value} {w : World} (h : BR b base bs w) (hB : B ≤ b) (hl : B ≤ base) : Lib.IsBuilderF 98 5 B b bs w := by
  obtain ⟨p, v, hp, hb, ho, hn⟩ := h
  have ho' : w.ownsRowF B 5 1 v bs.length bs := by
    refine ⟨ho.1, ?_⟩
    rcases ho.2 with h | ⟨g, cap, cur, fz, h1, h2, h3⟩
    · exact .inl h
    · exact .inr ⟨g, cap, cur, fz, h1, Nat.le_trans hl h2, h3⟩
  rcases hp with rfl | rfl
  · exact .inl ⟨hB, v, hb, ho', hn⟩
  · exact .inr ⟨hB, v, hb, ho', hn⟩
/-- What keeps the builder's two blocks keeps the builder. -/
theorem BR.below {b base : Nat} {bs : List Value} {w w' : World} (h : BR b base bs w) (hb : Below w.heap.size w w') : BR b base bs w' := by
  have hlt := h.lt
  obtain ⟨p, v, hp, hk, ho, hn⟩ := h
  exact ⟨p, v, hp, (hb.block b hlt).trans hk, ho.kept (row := none) ⟨hb.os, hb.tape, hb.output, hb.size, fun k hk _ => hb.block k hk⟩ (by cases hv : v.ownBlock <;> simp), hn⟩
theorem BR.store {b base : Nat} {bs : List Value} {w : World} (h : BR b base bs w) {d : Nat} {t : TypeId} {cs : Array Value} {fr : Nat × Nat} (hd : w.heap[d]? = some (.cells cs t fr)) (ht : t ≠ 5) (ht2 : t ≠ 98) (j : Nat) (u : Value) : BR b base bs (w.setCell ⟨d, j, none⟩ u) := by
  obtain ⟨p, v, hp, hk, ho, hn⟩ := h
  have hdb : b ≠ d := by
    rintro rfl; rw [hk] at hd; injection hd with hd; injection hd with _ hd; exact ht2 hd.symm
  refine ⟨p, v, hp, (Below.heap_setCell _ _ _ _ hdb).trans hk, ?_, hn⟩
  exact ho.kept (row := some d) ⟨rfl, rfl, rfl, by simp [World.setCell], fun k _ hk => Below.heap_setCell _ _ _ _ (fun e => hk (by simp [e]))⟩ (Or.inr (Lib.ownBlock_neF ho hd ht))
theorem copyCheck_r (b base : Nat) (bs : List Value) (w : World) (h : BR b base bs w) :
    Calls Tryz.prog 49 #[.pointer (some ⟨b, 0, none⟩)] w fun e w' => e = .returned (.tuple #[]) ∧ Wrote b base w w' ∧ ∃ v, w'.heap[b]? = some (.cells #[.pointer (some ⟨b, 0, none⟩), v] 98 (0, 0)) ∧ w'.ownsRowF base 5 1 v bs.length bs ∧ v.ownBlock ≠ some b := by
  have hlt := h.lt
  obtain ⟨p, v, hp, hb, ho, hn⟩ := h
  rcases hp with rfl | rfl
  · refine (copyCheck_fresh b w (by rw [Lib.cell_of_heap hb]; rfl) (by simp [World.shape?, hb]) (Lib.frozen_of_heap hb 0)).mono ?_
    rintro e w' ⟨rfl, rfl⟩
    refine ⟨rfl, ⟨rfl, rfl, rfl, by simp [World.setCell], fun i _ hi _ => Below.heap_setCell _ _ _ _ hi, (Lib.OthersKept.refl _ _ w).setCell ⟨b, 0, none⟩ rfl _⟩, v, ?_, ?_, hn⟩
    · simp [World.setCell, Array.getElem?_modify, hb]
    · exact ho.kept (row := some b) ⟨rfl, rfl, rfl, by simp [World.setCell], fun k _ hk => Below.heap_setCell _ _ _ _ (fun e => hk (by simp [e]))⟩ (Or.inr hn)
  · refine (copyCheck_used b w (by rw [Lib.cell_of_heap hb]; rfl)).mono ?_
    rintro e w' ⟨rfl, rfl⟩
    exact ⟨rfl, ⟨rfl, rfl, rfl, Nat.le_refl _, fun _ _ _ _ => rfl, Lib.OthersKept.refl _ _ _⟩, v, hb, ho, hn⟩
/-- The write's last store, behind the append. -/
theorem wrote_put {b base : Nat} {bs : List Value} {w w1 w2 : World} {v v' : Value} {n : Nat} {xs : List Value} (h1 : Wrote b base w w1) (hown : w1.ownsRowF base 5 1 v n xs) (hb2 : w2.heap[b]? = some (.cells #[.pointer (some ⟨b, 0, none⟩), v] 98 (0, 0)))
    (hg : w1.grownBy w2 v.ownBlock) (hown' : w2.ownsRowF base 5 1 v' bs.length bs) : BR b base bs (w2.setCell ⟨b, 1, none⟩ v') ∧ Wrote b base w (w2.setCell ⟨b, 1, none⟩ v') := by
  have hne := Lib.ownBlock_neF hown' hb2 (by decide)
  refine ⟨⟨_, v', .inr rfl, ?_, ?_, hne⟩, h1.trans ⟨hg.os, hg.tape, hg.output, ?_, fun i hi hi2 hi3 => ?_, ?_⟩⟩
  · simp [World.setCell, Array.getElem?_modify, hb2]
  · exact hown'.kept (row := some b) ⟨rfl, rfl, rfl, by simp [World.setCell], fun k _ hk => Below.heap_setCell _ _ _ _ (fun e => hk (by simp [e]))⟩ (Or.inr hne)
  · have := hg.size; simpa [World.setCell] using this
  · rw [Below.heap_setCell _ _ _ _ (show i ≠ b from hi2)]
    refine hg.block i hi (fun e => ?_)
    have := (hown.lt i e.symm).1
    omega
  · exact ((Lib.OthersKept.refl _ _ w1).grown hg (Lib.ownsRowF_kind hown)).setCell ⟨b, 1, none⟩ rfl _
set_option maxHeartbeats 2000000 in
set_option maxRecDepth 100000 in
theorem writeByte_r (b base : Nat) (bs : List Value) (c : Int) (w : World) (h : BR b base bs w) (hlen : bs.length + 1 ≤ 140737488355328) (hBw : base ≤ w.heap.size) :
    Calls Tryz.prog 38 #[.pointer (some ⟨b, 0, none⟩), .int .u8 c] w fun e w' => e = .returned .nilIface ∧ BR b base (bs ++ [.int .u8 c]) w' ∧ Wrote b base w w' := by
  obtain ⟨i0, hi, hz0, hz1, hz2⟩ := info_parts info_byte
  go_enter Tryz.func38, Tryz.ntmps38
  go_wp2_with (go_at_call 49; refine (copyCheck_r b base bs _ h).mono ?_)
  rintro e w1 ⟨rfl, h1, v, hbk, hown, hne⟩
  have c0 : w1.cell? ⟨b, 0, none⟩ = some (.pointer (some ⟨b, 0, none⟩)) := by rw [Lib.cell_of_heap hbk]; rfl
  have c1 : w1.cell? ⟨b, 1, none⟩ = some v := by rw [Lib.cell_of_heap hbk]; rfl
  go_wp2_with (at_builtin; refine wpList_append_ownF _ rfl _ _ 52 rfl base 5 i0 (.int .u8 0) 1 1 Tryz.underlying52 hi hz0 hz1 hz2 rfl (by decide) _ _ _ rfl (hown.alloc _) ⟨w1.heap.size, 0, none⟩ 1 1 [.int .u8 c] rfl rfl ?c1 ?c2 ?c3 ?c4 ?c5 ?_)
  case c1 =>
    intro j u hj
    match j, hj with
    | 0, hj => simp at hj; subst hj; simp [Addr.add]
  case c2 => intro u hu; simp at hu; subst hu; rfl
  case c3 => unfold maxLen; omega
  case c4 => omega
  case c5 => have := h1.size; simp; omega
  intro v' w2 hown' hgrow _
  have hlt : b < w1.heap.size := by
    rcases Nat.lt_or_ge b w1.heap.size with h' | h'
    · exact h'
    · simp [Array.getElem?_eq_none h'] at hbk
  have hb2 : w2.heap[b]? = some (.cells #[.pointer (some ⟨b, 0, none⟩), v] 98 (0, 0)) := by
    rw [hgrow.block b (by simp; omega) (fun e => hne e.symm), Lib.alloc_old w1 _ b hlt]
    exact hbk
  have d0 : w2.cell? ⟨b, 0, none⟩ = some (.pointer (some ⟨b, 0, none⟩)) := by rw [Lib.cell_of_heap hb2]; rfl
  have d1 : w2.cell? ⟨b, 1, none⟩ = some v := by rw [Lib.cell_of_heap hb2]; rfl
  have f1 : w2.frozen? ⟨b, 1, none⟩ = false := Lib.frozen_of_heap hb2 1
  have hgr : w1.grownBy w2 v.ownBlock := grown_trans2 (World.grownBy_alloc w1 _ _) hgrow (fun g hg => .inl hg)
  obtain ⟨g, cap, rfl⟩ : ∃ g cap, v' = .slice (some ⟨g, 0, none⟩) (bs.length + 1) cap := by
    rcases hown'.2 with ⟨_, h0⟩ | ⟨g, cap, cur, fz, hv, _⟩
    · omega
    · exact ⟨g, cap, hv⟩
  go_wp2
  go_ret
  exact ⟨rfl, wrote_put h1 hown hb2 hgr (bs := bs ++ [.int .u8 c]) (by simpa using hown')⟩
set_option maxHeartbeats 2000000 in
set_option maxRecDepth 100000 in
theorem writeString_r (b base : Nat) (bs : List Value) (s : ByteArray) (w : World) (h : BR b base bs w) (hlen : bs.length + s.size ≤ 140737488355328) (hBw : base ≤ w.heap.size) :
    Calls Tryz.prog 35 #[.pointer (some ⟨b, 0, none⟩), .string s] w fun e w' => e = .returned (.tuple #[.int .i64 s.size, .nilIface]) ∧ BR b base (bs ++ Lib.strCells s) w' ∧ Wrote b base w w' := by
  obtain ⟨i0, hi, hz0, hz1, hz2⟩ := info_parts info_byte
  go_enter Tryz.func35, Tryz.ntmps35
  go_wp2_with (go_at_call 49; refine (copyCheck_r b base bs _ h).mono ?_)
  rintro e w1 ⟨rfl, h1, v, hbk, hown, hne⟩
  have c0 : w1.cell? ⟨b, 0, none⟩ = some (.pointer (some ⟨b, 0, none⟩)) := by rw [Lib.cell_of_heap hbk]; rfl
  have c1 : w1.cell? ⟨b, 1, none⟩ = some v := by rw [Lib.cell_of_heap hbk]; rfl
  go_wp2_with (at_builtin; refine Lib.wpList_append_own_stringF _ rfl _ _ 52 9 rfl base 5 i0 Tryz.underlying52 Tryz.underlying9 hi hz0 hz1 hz2 _ _ _ rfl hown s rfl ?c3 ?c4 ?c5 ?_)
  case c3 => unfold maxLen; omega
  case c4 => omega
  case c5 => have := h1.size; omega
  intro v' w2 hown' hgrow _
  have hlt : b < w1.heap.size := by
    rcases Nat.lt_or_ge b w1.heap.size with h' | h'
    · exact h'
    · simp [Array.getElem?_eq_none h'] at hbk
  have hb2 : w2.heap[b]? = some (.cells #[.pointer (some ⟨b, 0, none⟩), v] 98 (0, 0)) := by
    rw [hgrow.block b hlt (fun e => hne e.symm)]
    exact hbk
  have d0 : w2.cell? ⟨b, 0, none⟩ = some (.pointer (some ⟨b, 0, none⟩)) := by rw [Lib.cell_of_heap hb2]; rfl
  have d1 : w2.cell? ⟨b, 1, none⟩ = some v := by rw [Lib.cell_of_heap hb2]; rfl
  have f1 : w2.frozen? ⟨b, 1, none⟩ = false := Lib.frozen_of_heap hb2 1
  obtain ⟨ao, n', cap, rfl⟩ : ∃ ao n' cap, v' = .slice ao n' cap := by
    rcases hown'.2 with ⟨hv, _⟩ | ⟨g, cap, cur, fz, hv, _⟩
    · exact ⟨_, _, _, hv⟩
    · exact ⟨_, _, _, hv⟩
  go_wp2
  go_ret2
  exact ⟨rfl, wrote_put h1 hown hb2 hgrow (bs := bs ++ Lib.strCells s) (by simpa [Lib.strCells_length] using hown')⟩
end Go.Proofs.YtigfogpfcbcdhaaGreatDoor
