/- The desk's play of a line of the fixed scripts, by what the line is; what a round of Run leaves as it was. -/
import Derived.Test.YtigfogpfcbcdhaaGreatDoorDeskY
import Derived.Test.YtigfogpfcbcdhaaGreatDoorBuildW
set_option linter.unusedVariables false
set_option linter.unusedSimpArgs false
namespace Go.Proofs.YtigfogpfcbcdhaaGreatDoor
open Go Go.RowKit
/-- A line that is played: what slot 3 holds ahead of it and behind it, and what it answers. -/
inductive Play : Dk.Ln → Option (List UInt8) → Option (List UInt8) → List UInt8 → Prop
  | put (b : List UInt8) : Play ⟨[112, 117, 116], [3], [b]⟩ none (some b) [111, 107]
  | see (b : List UInt8) : b.length ≤ 1000000 → Play ⟨[115, 104, 111, 119], [3], []⟩ (some b) (some b) (Dk.hexT b)
  | ask (st : Option (List UInt8)) : Play ⟨[97, 115, 107], [0, 0, 5], []⟩ st st (toldL 3)
  | cut (st : Option (List UInt8)) : Play ⟨[99, 117, 116], [-1], []⟩ st st (toldL 1)
  | start (st : Option (List UInt8)) : Play ⟨[115, 116, 97, 114, 116], [], []⟩ st st [111, 107]
/-- Slot 3: its bytes lie in a row of their own, below top. -/
def SlotIs (n₀ : Nat) (w : World) (st : Option (List UInt8)) (u : Value) (top : Nat) : Prop :=
  match st with
  | none => True
  | some b => ∃ A c, u = .slice A b.length c ∧ w.ownsRow n₀ 5 1 u b.length (Lib.byteCells b) ∧ ∀ g, u.ownBlock = some g → g < top
theorem own_same {w w' : World} {base : Nat} {e : TypeId} {size n : Nat} {v : Value} {xs : List Value} (h : w.ownsRow base e size v n xs) (hs : ∀ g o, v.ownBlock = some g → w.heap[g]? = some o → w'.heap[g]? = some o) : w'.ownsRow base e size v n xs := by
  refine ⟨h.1, ?_⟩
  rcases h.2 with h | ⟨g, cap, cur, rfl, h1, h2, h3⟩
  · exact .inl h
  · exact .inr ⟨g, cap, cur, rfl, h1, hs g _ (by simp [Value.ownBlock]) h2, h3⟩
theorem own_block8 {w : World} {base : Nat} {e : TypeId} {size n : Nat} {v : Value} {xs : List Value} (h : w.ownsRow base e size v n xs) {g : Nat} (hg : v.ownBlock = some g) : base ≤ g ∧ g < w.heap.size ∧ ∃ cur, w.heap[g]? = some (.cells cur e (0, 0)) := by
  rcases h.2 with ⟨rfl, _⟩ | ⟨g', cap, cur, rfl, h1, h2, h3⟩
  · simp [Value.ownBlock] at hg
  · obtain rfl : g' = g := by simpa [Value.ownBlock] using hg
    exact ⟨h1, (Array.getElem?_eq_some_iff.1 h2).1, cur, h2⟩
theorem SlotIs.same {n₀ : Nat} {w w' : World} {st : Option (List UInt8)} {u : Value} {top : Nat} (h : SlotIs n₀ w st u top) (hs : ∀ g cur, g < top → w.heap[g]? = some (.cells cur 5 (0, 0)) → w'.heap[g]? = w.heap[g]?) : SlotIs n₀ w' st u top := by
  cases st with
  | none => trivial
  | some b =>
    obtain ⟨A, c, rfl, h1, h2⟩ := h
    refine ⟨A, c, rfl, own_same h1 (fun g o hg ho => ?_), h2⟩
    obtain ⟨_, _, cur, hc⟩ := own_block8 h1 hg
    rw [hs g cur (h2 g hg) hc]
    exact ho
theorem SlotIs.moved {n₀ : Nat} {w w' : World} {d k : Nat} {u0 : Value} {st : Option (List UInt8)} {u : Value} {top : Nat} (h : SlotIs n₀ w st u top) (hd : DeskAt w d k u0) (hm : Moved d k w w') : SlotIs n₀ w' st u top := by
  obtain ⟨⟨cs, h1, _⟩, ⟨ds, h2, _⟩⟩ := hd
  refine h.same (fun g cur _ hg => ?_)
  refine hm.others g (Array.getElem?_eq_some_iff.1 hg).1 ?_ ?_
  · rintro rfl; unfold Blk at h1; rw [hg] at h1; injection h1 with h1; injection h1 with _ h1; exact absurd h1 (by decide)
  · rintro rfl; unfold Blk at h2; rw [hg] at h2; injection h2 with h2; injection h2 with _ h2; exact absurd h2 (by decide)
theorem own_one {w : World} {base : Nat} {e : TypeId} {n : Nat} {v : Value} {xs : List Value} (h : w.ownsRow base e 1 v n xs) : v.oneCell' = true := by
  rcases h.2 with ⟨rfl, _⟩ | ⟨g, cap, cur, rfl, _⟩ <;> rfl
theorem bytes_eq {b : ByteArray} {l : List UInt8} (h : l = b.data.toList) : b = ⟨l.toArray⟩ := by subst h; exact (Lib.mk_data b).symm
theorem play_any {l : Dk.Ln} {st st' : Option (List UInt8)} {a : List UInt8} (hp : Play l st st' a) (n₀ d k top : Nat) (u v : Value) (B : Nat) (w : World) (hn : n₀ ≤ B) (h : DeskAt w d k u) (hs : SlotIs n₀ w st u top) (hl : OwnLine B w v l) (ht : st' = st ∨ w.heap.size ≤ top) (he : Env w) :
    Calls Tryz.prog 37 #[.pointer (some ⟨d, 0, none⟩), v] w fun e w' => e = .returned (.string ⟨a.toArray⟩) ∧ Moved d k w w' ∧ ∃ u', DeskAt w' d k u' ∧ SlotIs n₀ w' st' u' top := by
  obtain ⟨T, b0, Lb, word, vn, vb, rfl, hm, hB, hw⟩ := hl
  obtain ⟨xs, r1, r2, r3⟩ := hm.rows
  have hnum := hm.nums
  have o1 := own_one hnum
  have o2 := own_one r1
  have hwd := bytes_eq hw
  cases hp with
  | put b =>
    rw [hwd]
    obtain ⟨x, rfl⟩ : ∃ x, xs = [x] := List.length_eq_one_iff.1 r2
    have hx := r3 0 x b rfl rfl
    obtain ⟨A, c, rfl, _⟩ := reads_own hx
    refine (play_put d k u A b.length c vn vb b0 w h hnum r1).mono ?_
    rintro e w' ⟨rfl, h1, h2⟩
    refine ⟨rfl, h2, _, h1, A, c, rfl, ?_, fun g hg => ?_⟩
    · have h3 : SlotIs b0 w (some b) (.slice A b.length c) w.heap.size := ⟨A, c, rfl, hx, fun g hg => (own_block8 hx hg).2.1⟩
      obtain ⟨A', c', e', h4, _⟩ := h3.moved h h2
      refine ⟨h4.1, ?_⟩
      rcases h4.2 with h5 | ⟨g, cap, cur, h5, h6, h7⟩
      · exact .inl h5
      · exact .inr ⟨g, cap, cur, h5, by omega, h7⟩
    · have := (own_block8 hx hg).2.1
      rcases ht with ht | ht
      · cases ht
      · omega
  | see b hb =>
    rw [hwd]
    obtain ⟨A, c, rfl, hr, htop⟩ := hs
    refine (play_show d k A c b _ vb (min n₀ b0) w h (own_low hr (by omega)) hb (own_low hnum (by omega)) o2).mono ?_
    rintro e w' ⟨rfl, h1, h2⟩
    exact ⟨rfl, h2, _, h1, SlotIs.moved (st := some b) ⟨A, c, rfl, hr, htop⟩ h h2⟩
  | ask =>
    rw [hwd]
    refine (play_ask d k u vn vb w h o1 o2 he).mono ?_
    rintro e w' ⟨rfl, h1, h2⟩
    exact ⟨rfl, h2, _, h1, hs.moved h h2⟩
  | cut =>
    rw [hwd]
    refine (play_cut d k u vn vb b0 w h hnum o2 he).mono ?_
    rintro e w' ⟨rfl, h1, h2⟩
    exact ⟨rfl, h2, _, h1, hs.moved h h2⟩
  | start =>
    rw [hwd]
    refine (play_start d k u vn vb w h o1 o2).mono ?_
    rintro e w' ⟨rfl, h1, h2⟩
    exact ⟨rfl, h2, _, h1, hs.moved h h2⟩
/-- What a round of Run leaves. -/
structure Rnd (d k bb base : Nat) (w w' : World) : Prop where
  os : w'.os = w.os
  tape : w'.tape = w.tape
  output : w'.output = w.output
  keeps : KeepsOthers w w'
  others : ∀ i o, w.heap[i]? = some o → i ≠ d → i ≠ k → i ≠ bb → (i < base ∨ ∀ c fz, o ≠ .cells c 5 fz) → w'.heap[i]? = some o
theorem Rnd.trans {d k bb base : Nat} {A B C : World} (h : Rnd d k bb base A B) (g : Rnd d k bb base B C) : Rnd d k bb base A C :=
  ⟨g.os.trans h.os, g.tape.trans h.tape, g.output.trans h.output, h.keeps.trans g.keeps, fun i o hi h1 h2 h3 h4 => g.others i o (h.others i o hi h1 h2 h3 h4) h1 h2 h3 h4⟩
theorem Rnd.of_below {d k bb base : Nat} {w w' : World} (h : Below w.heap.size w w') : Rnd d k bb base w w' :=
  ⟨h.os, h.tape, h.output, keeps_below h, fun i o hi _ _ _ _ => (h.block i (Array.getElem?_eq_some_iff.1 hi).1).trans hi⟩
theorem Rnd.of_moved {d k bb base : Nat} {w w' : World} (h : Moved d k w w') : Rnd d k bb base w w' :=
  ⟨h.os, h.tape, h.output, h.keeps, fun i o hi h1 h2 _ _ => (h.others i (Array.getElem?_eq_some_iff.1 hi).1 h1 h2).trans hi⟩
theorem Rnd.of_wrote {d k bb base : Nat} {w w' : World} {bs : List Value} (hb : BR bb base bs w) (h : Wrote bb base w w') : Rnd d k bb base w w' := by
  refine ⟨h.os, h.tape, h.output, ⟨h.size, fun i o hi ho => ?_⟩, fun i o hi _ _ h3 h4 => ?_⟩
  · refine h.others i o hi (fun e => ?_) (fun c fz e => by rw [e] at ho; cases ho)
    injection e with e
    subst e
    obtain ⟨p, v, _, hk, _⟩ := hb
    rw [hk] at hi; injection hi with hi; rw [← hi] at ho; cases ho
  · rcases h4 with h4 | h4
    · exact (h.low i (Array.getElem?_eq_some_iff.1 hi).1 h3 h4).trans hi
    · exact h.others i o hi (fun e => h3 (by injection e)) h4
theorem Rnd.below {d k bb base n₀ : Nat} {w w' : World} (h : Rnd d k bb base w w') (h1 : n₀ ≤ d) (h2 : n₀ ≤ k) (h3 : n₀ ≤ bb) (h4 : n₀ ≤ base) (hn : n₀ ≤ w.heap.size) : Below n₀ w w' :=
  ⟨h.os, h.tape, h.output, h.keeps.size, fun i hi => by
    have hlt : i < w.heap.size := by omega
    rw [Array.getElem?_eq_getElem hlt]
    exact h.others i _ (Array.getElem?_eq_getElem hlt) (by omega) (by omega) (by omega) (.inl (by omega))⟩
theorem BR.keep {b base : Nat} {bs : List Value} {w w' : World} (h : BR b base bs w) (hk : ∀ (i : Nat) (cs : Array Value) (t : TypeId) (fz : Nat × Nat), w.heap[i]? = some (Obj.cells cs t fz) → (t = 98 ∨ t = 5) → w'.heap[i]? = w.heap[i]?) : BR b base bs w' := by
  obtain ⟨p, v, hp, hb, ho, hn⟩ := h
  refine ⟨p, v, hp, (hk b _ _ _ hb (.inl rfl)).trans hb, ⟨ho.1, ?_⟩, hn⟩
  rcases ho.2 with h | ⟨g, cap, cur, fz, h1, h2, h3, h4⟩
  · exact .inl h
  · exact .inr ⟨g, cap, cur, fz, h1, h2, (hk g _ _ _ h3 (.inr rfl)).trans h3, h4⟩
theorem BR.moved {b base : Nat} {bs : List Value} {w w' : World} (h : BR b base bs w) {d k : Nat} {u : Value} (hd : DeskAt w d k u) (hm : Moved d k w w') : BR b base bs w' := by
  obtain ⟨⟨cs, h1, _⟩, ⟨ds, h2, _⟩⟩ := hd
  refine h.keep (fun i c t fz hi ht => hm.others i (Array.getElem?_eq_some_iff.1 hi).1 ?_ ?_)
  · rintro rfl; unfold Blk at h1; rw [hi] at h1; injection h1 with h1; injection h1 with _ h1; subst h1; revert ht; decide
  · rintro rfl; unfold Blk at h2; rw [hi] at h2; injection h2 with h2; injection h2 with _ h2; subst h2; revert ht; decide
end Go.Proofs.YtigfogpfcbcdhaaGreatDoor
