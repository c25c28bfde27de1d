/- The walk of OidBytes of the program: the loop over the parts. -/
import Derived.Test.YtehdbceemdpbaaaDoorSplit
import Derived.Test.YtehdbceemdpbaaaDoorNumW
import Derived.Test.YtehdbceemdpbaaaDoorPutW
namespace Go.Proofs.YtehdbceemdpbaaaDoor
open Go Go.RowKit Go.Shelf
attribute [local go_sem] Oper.semAt_some

def u64s (l : List Nat) : List Value := l.map fun (n : Nat) => Value.int .u64 (n : Int)
theorem u64s_length (l : List Nat) : (u64s l).length = l.length := by simp [u64s]
theorem numsOf_snoc {ps : List (List UInt8)} {p : List UInt8} {ns : List Nat} {n : Nat} (h : Od.numsOf ps = some ns) (hn : Od.numL p = some n) : Od.numsOf (ps ++ [p]) = some (ns ++ [n]) := by
  induction ps generalizing ns with
  | nil => simp [Od.numsOf] at h; subst h; simp [Od.numsOf, hn]
  | cons q ps ih =>
    rw [List.cons_append]
    unfold Od.numsOf at h ⊢
    cases hq : Od.numL q with
    | none => rw [hq] at h; simp at h
    | some m =>
      rw [hq] at h
      cases hp : Od.numsOf ps with
      | none => rw [hp] at h; simp at h
      | some ms =>
        rw [hp] at h
        simp only [Option.some.injEq] at h
        subst h
        rw [ih hp]; rfl
theorem numsOf_bad {ps : List (List UInt8)} {p : List UInt8} (hp : p ∈ ps) (h : Od.numL p = none) : Od.numsOf ps = none := by
  induction ps with
  | nil => cases hp
  | cons q ps ih =>
    unfold Od.numsOf
    rcases List.mem_cons.1 hp with rfl | hp
    · rw [h]
    · rw [ih hp]
      cases Od.numL q <;> rfl
theorem numsOf_top {ps : List (List UInt8)} {ns : List Nat} (h : Od.numsOf ps = some ns) : ns.length = ps.length ∧ ∀ n ∈ ns, n < Od.top := by
  induction ps generalizing ns with
  | nil => simp [Od.numsOf] at h; subst h; simp
  | cons q ps ih =>
    unfold Od.numsOf at h
    cases hq : Od.numL q with
    | none => rw [hq] at h; simp at h
    | some m =>
      rw [hq] at h
      cases hp : Od.numsOf ps with
      | none => rw [hp] at h; simp at h
      | some ms =>
        rw [hp] at h
        simp only [Option.some.injEq] at h
        subst h
        obtain ⟨h1, h2⟩ := ih hp
        refine ⟨by simp [h1], ?_⟩
        intro x hx
        rcases List.mem_cons.1 hx with rfl | hx
        · unfold Od.numL at hq
          split at hq
          · cases hq
          · split at hq
            · split at hq
              · injection hq with hq; omega
              · cases hq
            · cases hq
        · exact h2 x hx
theorem boxed_own' {A B : World} {row : Option Nat} {k t : Nat} {v : Value} (h : Boxed A k t v) (hg : A.grownBy B row) (hr : ∀ r, row = some r → ∃ o : Obj, A.heap[r]? = some o ∧ o.isCells = false) : Boxed B k t v :=
  h.kept hg (fun e => by
    obtain ⟨o, ho, hc⟩ := hr k e.symm
    rw [show A.heap[k]? = _ from h] at ho; cases ho; cases hc)
theorem owns_own' {A B : World} {row : Option Nat} {base e size n : Nat} {v : Value} {xs : List Value} (h : A.ownsRow base e size v n xs) (hg : A.grownBy B row) (hr : ∀ r, row = some r → ∃ o : Obj, A.heap[r]? = some o ∧ o.isCells = false) : B.ownsRow base e size v n xs := by
  refine h.kept hg ?_
  rcases h.2 with ⟨rfl, _⟩ | ⟨g, cap, cur, rfl, _, hgb, _⟩
  · exact .inl rfl
  · refine .inr fun e' => ?_
    obtain ⟨o, ho, hc⟩ := hr g (by simpa [Value.ownBlock] using e'.symm)
    rw [hgb] at ho; cases ho; cases hc
/-- The numbers that have come: in the box of l. -/
structure OI (w : World) (pre : List ByteArray) (W : World) : Prop where
  l : ∃ v ns, Boxed W (w.heap.size + 2) 60 v ∧ W.ownsRow w.heap.size 64 1 v ns.length (u64s ns) ∧ Od.numsOf (pre.map (·.data.toList)) = some ns
  r : Boxed W w.heap.size 25 (.slice none 0 0)
  e : Boxed W (w.heap.size + 1) 26 (.int .i64 0)
  s : ∃ v, Boxed W (w.heap.size + 3) 9 v
  p : ∃ v, Boxed W (w.heap.size + 4) 9 v
  n : ∃ v, Boxed W (w.heap.size + 5) 3 v
  b : Below w.heap.size w W
structure OX (w : World) (c : Code) (pre : List ByteArray) (W : World) : Prop where
  c : c = .ret
  r : Boxed W w.heap.size 25 (.slice none 0 0)
  e : Boxed W (w.heap.size + 1) 26 (.int .i64 20)
  b : Below w.heap.size w W
  x : ∃ x ∈ pre, Od.numL x.data.toList = none
theorem OI.own (w : World) (B : Nat) (hB : w.heap.size ≤ B) : OwnFrom B (OI w) := by
  rintro pre A W row ⟨⟨v, ns, h1, h2, h3⟩, h4, h5, ⟨v6, h6⟩, ⟨v7, h7⟩, ⟨v8, h8⟩, h9⟩ hg hr
  have hr' := fun r e => (hr r e).2
  exact ⟨⟨v, ns, boxed_own' h1 hg hr', owns_own' h2 hg hr', h3⟩, boxed_own' h4 hg hr', boxed_own' h5 hg hr', ⟨v6, boxed_own' h6 hg hr'⟩, ⟨v7, boxed_own' h7 hg hr'⟩, ⟨v8, boxed_own' h8 hg hr'⟩,
    h9.grown hg h9.size (fun k e => Nat.le_trans hB (hr k e).1)⟩
theorem OX.own (w : World) (c : Code) (B : Nat) (hB : w.heap.size ≤ B) : OwnFrom B (OX w c) := by
  rintro pre A W row ⟨h1, h2, h3, h4, h5⟩ hg hr
  have hr' := fun r e => (hr r e).2
  exact ⟨h1, boxed_own' h2 hg hr', boxed_own' h3 hg hr', h4.grown hg h4.size (fun k e => Nat.le_trans hB (hr k e).1), h5⟩
theorem OI.state {w : World} {pre : List ByteArray} {W : World} (h : OI w pre W) (u : Value) : OI w pre (W.setCell ⟨w.heap.size + 3, 0, none⟩ u) := by
  obtain ⟨⟨v, ns, h1, h2, h3⟩, h4, h5, ⟨v6, h6⟩, ⟨v7, h7⟩, ⟨v8, h8⟩, h9⟩ := h
  have hg := grownBy_setCell' W (w.heap.size + 3) u
  exact ⟨⟨v, ns, h1.kept hg (by simp), h2.kept hg (.inr (h6.not_row (by decide) h2).symm), h3⟩, h4.kept hg (by simp), h5.kept hg (by simp), ⟨u, h6.set u⟩, ⟨v7, h7.kept hg (by simp)⟩, ⟨v8, h8.kept hg (by simp)⟩,
    h9.setCell (p := ⟨w.heap.size + 3, 0, none⟩) (by simp) u⟩
/-- Behind a call that turns nothing that was there. -/
theorem OI.call {w : World} {pre : List ByteArray} {W W1 : World} (h : OI w pre W) (hb : Below W.heap.size W W1) : OI w pre W1 :=
  OI.own w w.heap.size (Nat.le_refl _) pre W W1 none h (only_of_below hb none) (fun r e => by cases e)
theorem keeps_of_below {W W1 : World} (hb : Below W.heap.size W W1) : KeepsOthers W W1 := KeepsOthers.of_grownBy (only_of_below hb none) (fun j o ej hj => by cases ej)
theorem boxes_of_below {b : Nat} {W W1 : World} (hb : Below W.heap.size W W1) : KeepsBoxes b W W1 := fun k t v _ hv => hv.kept (only_of_below hb none) (by simp)
theorem splitSeq_any (s sep : ByteArray) (w : World) :
    Calls Tryd.prog 47 #[.string s, .string sep] w fun e w' => e = .returned (.func (.func 73) #[] #[.pointer (some ⟨w.heap.size + 1, 0, none⟩), .pointer (some ⟨w.heap.size, 0, none⟩), .pointer (some ⟨w.heap.size + 2, 0, none⟩)]) ∧
      w' = ((w.alloc (.cells #[.string s] 9)).alloc (.cells #[.string sep] 9)).alloc (.cells #[.int .i64 0] 3) := by
  go_enter Tryd.func47, Tryd.ntmps47
  go_wp2
  go_ret
  exact ⟨rfl, rfl⟩
end Go.Proofs.YtehdbceemdpbaaaDoor
