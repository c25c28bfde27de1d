/- The walk of the desk's Run, over lines that are none or are of the fixed scripts. Conditions: the script is short; the library's variables are there. -/
import Derived.Test.YtigfogpfcbcdhaaGreatDoorDeskX
import Derived.Test.YtigfogpfcbcdhaaGreatDoorDeskQ2
set_option linter.unusedVariables false
set_option linter.unusedSimpArgs false
namespace Go.Proofs.YtigfogpfcbcdhaaGreatDoor
open Go Go.RowKit Go.Shelf
attribute [local go_sem] Oper.semAt_some
inductive Deed (x : List UInt8) (st st' : Option (List UInt8)) (a : List UInt8) : Prop
  | bad : Dk.lineOf x = none → st' = st → a = toldL 120 → Deed x st st' a
  | play (l : Dk.Ln) : Dk.lineOf x = some l → Play l st st' a → Deed x st st' a
theorem parse_of_none {L : List UInt8} {w w' : World} {e : Ending} (h : ParsePost L w e w') (hl : Dk.lineOf L = none) : e = .returned (.tuple #[noLine, .int .i64 120]) ∧ Below w.heap.size w w' := by
  unfold ParsePost at h; rw [hl] at h; exact h
theorem parse_of_some {L : List UInt8} {l : Dk.Ln} {w w' : World} {e : Ending} (h : ParsePost L w e w') (hl : Dk.lineOf L = some l) : ∃ v, e = .returned (.tuple #[v, .int .i64 0]) ∧ LineAt w' NoAv v l ∧ Fine l ∧ Below w.heap.size w w' ∧ OwnLine w.heap.size w' v l := by
  unfold ParsePost at h; rw [hl] at h; exact h
/-- The count of the lines, in the box n. -/
structure CI (w : World) (pre : List ByteArray) (W : World) : Prop where
  n : Boxed W w.heap.size 3 (.int .i64 pre.length)
  st : ∃ q, Boxed W (w.heap.size + 1) 9 q
  low : Below w.heap.size w W
theorem CI.own (w : World) (B : Nat) (hB : w.heap.size ≤ B) : OwnFrom B (CI w) := by
  rintro pre A W row ⟨h1, ⟨q, h2⟩, h3⟩ hg hr
  have hr' := fun (k : Nat) (t : TypeId) (v : Value) (h : Boxed A k t v) => h.kept hg (fun e => by
    obtain ⟨_, o, ho, hc⟩ := hr k e.symm
    rw [show A.heap[k]? = _ from h] at ho; cases ho; cases hc)
  exact ⟨hr' _ _ _ h1, ⟨q, hr' _ _ _ h2⟩, h3.grown hg h3.size (fun k e => Nat.le_trans hB (hr k e).1)⟩
theorem CI.state {w : World} {pre : List ByteArray} {W : World} (h : CI w pre W) (u : Value) : CI w pre (W.setCell ⟨w.heap.size + 1, 0, none⟩ u) := by
  obtain ⟨h1, ⟨q, h2⟩, h3⟩ := h
  exact ⟨h1.kept (grownBy_setCell' _ (w.heap.size + 1) _) (by simp), ⟨u, h2.set _⟩, h3.setCell (p := ⟨w.heap.size + 1, 0, none⟩) (by simp) _⟩
theorem CI.call {w : World} {pre : List ByteArray} {W W1 : World} (h : CI w pre W) (hb : Below W.heap.size W W1) : CI w pre W1 :=
  CI.own w w.heap.size (Nat.le_refl _) pre W W1 none h (only_below hb none) (fun r e => by cases e)
theorem dcells : (Tryz.zeroCells95).size = 72 ∧ (Tryz.zeroCells95)[33]? = some (.slice none 0 0) ∧ (Tryz.zeroCells95)[71]? = some (.pointer none) := by
  refine ⟨by kernel_rfl, by kernel_rfl, by kernel_rfl⟩
/-- Run's own memory between two rounds. -/
structure RI (w : World) (S : Nat → Option (List UInt8)) (O : Nat → List UInt8) (D1 k base : Nat) (pre : List ByteArray) (W : World) : Prop where
  desk : ∃ u, DeskAt W (k + 1) k u ∧ SlotIs w.heap.size W (S pre.length) u base
  pd : Boxed W (k + 2) 72 (.pointer (some ⟨k + 1, 0, none⟩))
  bld : BR (k + 3) base (Lib.byteCells (O pre.length)) W
  fresh : pre = [] → ∀ b', BR (k + 3) b' (Lib.byteCells (O pre.length)) W
  st : ∃ q, Boxed W (k + 4) 9 q
  df : W.heap[D1]? = some (.deferred (some []))
  low : Below w.heap.size w W
  hb : base ≤ W.heap.size
def RIx (w : World) (S : Nat → Option (List UInt8)) (O : Nat → List UInt8) (D1 k : Nat) (pre : List ByteArray) (W : World) : Prop := ∃ base, w.heap.size ≤ base ∧ RI w S O D1 k base pre W
/-- What keeps every block of cells but the iterator's, and the record of the first loop, keeps Run's memory. -/
theorem RI.kept {w : World} {S : Nat → Option (List UInt8)} {O : Nat → List UInt8} {D1 k base : Nat} {pre : List ByteArray} {W W' : World} (h : RI w S O D1 k base pre W)
    (hk : ∀ (i : Nat) (cs : Array Value) (t : TypeId) (fz : Nat × Nat), W.heap[i]? = some (Obj.cells cs t fz) → i ≠ k + 4 → W'.heap[i]? = W.heap[i]?) (hs : ∀ q, Boxed W (k + 4) 9 q → ∃ q', Boxed W' (k + 4) 9 q') (hd : W'.heap[D1]? = W.heap[D1]?) (hl : Below w.heap.size w W') (hz : W.heap.size ≤ W'.heap.size) : RI w S O D1 k base pre W' := by
  obtain ⟨⟨u, ⟨⟨cs, d1, d2⟩, ⟨ds, d3, d4⟩⟩, s1⟩, p1, b1, f1, ⟨q, q1⟩, e1, l1, z1⟩ := h
  have hq : ∀ i cs t fz, W.heap[i]? = some (Obj.cells cs t fz) → t ≠ 9 → i ≠ k + 4 := by
    rintro i cs t fz hi ht rfl
    unfold Boxed at q1
    rw [hi] at q1; injection q1 with q1; injection q1 with _ q1; exact ht q1
  have hb : ∀ bs b', BR (k + 3) b' bs W → BR (k + 3) b' bs W' := fun bs b' h => h.keep (fun i c t fz hi ht => hk i c t fz hi (hq i c t fz hi (by rcases ht with rfl | rfl <;> decide)))
  refine ⟨⟨u, ⟨⟨cs, ?_, d2⟩, ⟨ds, ?_, d4⟩⟩, s1.same (fun g cur _ hg => hk g _ _ _ hg (hq _ _ _ _ hg (by decide)))⟩, ?_, hb _ _ b1, fun hp b' => hb _ _ (f1 hp b'), hs q q1, hd.trans e1, hl, Nat.le_trans z1 hz⟩
  · exact (hk _ _ _ _ d1 (hq _ _ _ _ d1 (by decide))).trans d1
  · exact (hk _ _ _ _ d3 (hq _ _ _ _ d3 (by decide))).trans d3
  · exact (hk _ _ _ _ p1 (hq _ _ _ _ p1 (by decide))).trans p1
theorem RIx.own {w : World} {S : Nat → Option (List UInt8)} {O : Nat → List UInt8} {D1 k : Nat} (B : Nat) (hB : w.heap.size ≤ B) (hD : D1 < B) : OwnFrom B (RIx w S O D1 k) := by
  rintro pre A W row ⟨base, h0, h⟩ hg hr
  have hcell : ∀ (i : Nat) (cs : Array Value) (t : TypeId) (fz : Nat × Nat), A.heap[i]? = some (Obj.cells cs t fz) → W.heap[i]? = A.heap[i]? := fun i cs t fz hi => hg.block i (Array.getElem?_eq_some_iff.1 hi).1 (fun e => by
    obtain ⟨_, o, ho, hc⟩ := hr i e.symm
    rw [hi] at ho; cases ho; cases hc)
  refine ⟨base, h0, h.kept (fun i cs t fz hi _ => hcell i cs t fz hi) (fun q hq => ⟨q, (hcell _ _ _ _ hq).trans hq⟩) ?_ (h.low.grown hg h.low.size (fun k e => Nat.le_trans hB (hr k e).1)) hg.size⟩
  exact hg.block D1 (Array.getElem?_eq_some_iff.1 h.df).1 (fun e => by have := (hr D1 e.symm).1; omega)
theorem RIx.state {w : World} {S : Nat → Option (List UInt8)} {O : Nat → List UInt8} {D1 k : Nat} {pre : List ByteArray} {W : World} (h : RIx w S O D1 k pre W) (hk : w.heap.size ≤ k) (u : Value) : RIx w S O D1 k pre (W.setCell ⟨k + 4, 0, none⟩ u) := by
  obtain ⟨base, h0, h⟩ := h
  refine ⟨base, h0, h.kept (fun i cs t fz hi hne => Below.heap_setCell _ _ _ _ hne) (fun q hq => ⟨u, hq.set u⟩) (Below.heap_setCell _ _ _ _ ?_) (h.low.setCell (p := ⟨k + 4, 0, none⟩) (by simp; omega) _) (by simp [World.setCell])⟩
  intro e
  obtain ⟨q, hq⟩ := h.st
  have := h.df
  rw [show D1 = k + 4 from e, show W.heap[k + 4]? = _ from hq] at this
  cases this
theorem RIx.call {w : World} {S : Nat → Option (List UInt8)} {O : Nat → List UInt8} {D1 k : Nat} {pre : List ByteArray} {W W' : World} (h : RIx w S O D1 k pre W) (hb : Below W.heap.size W W') : RIx w S O D1 k pre W' := by
  obtain ⟨base, h0, h⟩ := h
  have hc : ∀ (i : Nat) (o : Obj), W.heap[i]? = some o → W'.heap[i]? = W.heap[i]? := fun i o hi => hb.block i (Array.getElem?_eq_some_iff.1 hi).1
  exact ⟨base, h0, h.kept (fun i cs t fz hi _ => hc i _ hi) (fun q hq => ⟨q, (hc _ _ hq).trans hq⟩) (hc _ _ h.df) (h.low.trans (hb.mono h.low.size)) hb.size⟩
theorem DeskAt.wrote {w w' : World} {d k bb base : Nat} {u : Value} {bs : List Value} (h : DeskAt w d k u) (hb : BR bb base bs w) (hw : Wrote bb base w w') : DeskAt w' d k u := by
  obtain ⟨⟨cs, h1, h2⟩, ⟨ds, h3, h4⟩⟩ := h
  obtain ⟨p, v, _, hk, _⟩ := hb
  refine ⟨⟨cs, hw.others d _ h1 (fun e => ?_) (fun c fz e => ?_), h2⟩, ⟨ds, hw.others k _ h3 (fun e => ?_) (fun c fz e => ?_), h4⟩⟩
  · injection e with e; subst e; unfold Blk at h1; rw [hk] at h1; injection h1 with h1; injection h1 with _ h1; exact absurd h1 (by decide)
  · injection e with _ e; exact absurd e (by decide)
  · injection e with e; subst e; unfold Blk at h3; rw [hk] at h3; injection h3 with h3; injection h3 with _ h3; exact absurd h3 (by decide)
  · injection e with _ e; exact absurd e (by decide)
theorem SlotIs.wrote {n₀ : Nat} {w w' : World} {bb base : Nat} {st : Option (List UInt8)} {u : Value} {bs : List Value} (h : SlotIs n₀ w st u base) (hb : BR bb base bs w) (hw : Wrote bb base w w') : SlotIs n₀ w' st u base := by
  obtain ⟨p, v, _, hk, _⟩ := hb
  refine h.same (fun g cur hg hc => hw.low g (Array.getElem?_eq_some_iff.1 hc).1 ?_ hg)
  rintro rfl; rw [hk] at hc; injection hc with hc; injection hc with _ hc; exact absurd hc (by decide)
theorem strCells_bytes (a : List UInt8) : Lib.strCells ⟨a.toArray⟩ = Lib.byteCells a := by simp [Lib.strCells, Lib.byteCells]
theorem OwnLine.stays {B : Nat} {w w' : World} {v : Value} {l : Dk.Ln} (h : OwnLine B w v l) (hb : Below w.heap.size w w') : OwnLine B w' v l := by
  obtain ⟨T, b, Lb, word, vn, vb, h1, h2, h3⟩ := h
  exact ⟨T, b, Lb, word, vn, vb, h1, h2.stays hb, h3⟩
theorem SlotIs.stays {n₀ : Nat} {w w' : World} {st : Option (List UInt8)} {u : Value} {top : Nat} (h : SlotIs n₀ w st u top) (hb : Below w.heap.size w w') : SlotIs n₀ w' st u top :=
  h.same (fun g _ _ hg => hb.block g (Array.getElem?_eq_some_iff.1 hg).1)
/-- Behind a round. -/
theorem RI.next {w : World} {S : Nat → Option (List UInt8)} {O : Nat → List UInt8} {D1 k base base' : Nat} {pre : List ByteArray} {x : ByteArray} {W W' : World} (h : RI w S O D1 k base pre W) (hk : w.heap.size ≤ k) (hb : w.heap.size ≤ base')
    (r : Rnd (k + 1) k (k + 3) base' W W') (hd : ∃ u, DeskAt W' (k + 1) k u ∧ SlotIs w.heap.size W' (S (pre.length + 1)) u base') (hbr : BR (k + 3) base' (Lib.byteCells (O (pre.length + 1))) W') (hz : base' ≤ W'.heap.size) :
    KeepsOthers W W' ∧ KeepsState w.heap.size (k + 4) W W' ∧ RIx w S O D1 k (pre ++ [x]) W' := by
  have hl : Below w.heap.size W W' := r.below (by omega) hk (by omega) hb h.low.size
  have e : (pre ++ [x]).length = pre.length + 1 := by simp
  obtain ⟨q, hq⟩ := h.st
  have hst : ∀ t v, Boxed W (k + 4) t v → Boxed W' (k + 4) t v := fun t v hv => r.others (k + 4) _ hv (by omega) (by omega) (by omega) (.inr (fun c fz e => by
    have e2 := (show W.heap[k + 4]? = _ from hv).symm.trans (show W.heap[k + 4]? = _ from hq)
    injection e with _ e
    injection e2 with e2
    injection e2 with _ e2
    subst e
    exact absurd e2 (by decide)))
  refine ⟨r.keeps, ⟨hl, hst⟩, base', hb, ?_, ?_, ?_, ?_, ⟨q, hst _ _ hq⟩, ?_, h.low.trans hl, hz⟩
  · rw [e]; exact hd
  · exact r.others (k + 2) _ h.pd (by omega) (by omega) (by omega) (.inr (fun c fz e => by injection e with _ e; exact absurd e (by decide)))
  · rw [e]; exact hbr
  · intro hp; simp at hp
  · exact r.keeps.same D1 _ h.df rfl
theorem put_below {n₀ l : Nat} {W : World} {o o' : Obj} (hl : n₀ ≤ l) (h : W.heap[l]? = some o) : Below n₀ W (W.putObj l o') :=
  (Below.refl n₀ W).grown (grownBy_putObj' W l o') (by have := (Array.getElem?_eq_some_iff.1 h).1; omega) (fun k e => by cases e; omega)
def RunPost (s : ByteArray) (O : Nat → List UInt8) (w : World) (e : Ending) (w' : World) : Prop :=
  Below w.heap.size w w' ∧ if 1000 < (linesS s).length then e = .returned (.tuple #[.string ⟨#[]⟩, .int .i64 2]) else e = .returned (.tuple #[.string ⟨(O (linesS s).length).toArray⟩, .int .i64 0])
set_option maxRecDepth 100000 in
set_option maxHeartbeats 4000000 in
theorem run_any (s : ByteArray) (w : World) (hs : s.size ≤ 60000) (he : Env w) (S : Nat → Option (List UInt8)) (O : Nat → List UInt8) (hS0 : S 0 = none) (hO0 : O 0 = []) (hO : ∀ i, i ≤ (linesS s).length → (O i).length ≤ 2000000000)
    (hdeed : ∀ i (h : i < (linesS s).length), ∃ a, Deed ((linesS s)[i].data.toList) (S i) (S (i + 1)) a ∧ O (i + 1) = O i ++ a ++ [10] ∧ (S (i + 1) = S i ∨ i = 0)) :
    Calls Tryz.prog 17 #[.string s] w (RunPost s O w) := by
  have HO0 := Lib.hid hO0
  have HS0 := Lib.hid hS0
  have HO := Lib.hid hO
  have HD := Lib.hid hdeed
  clear hS0 hO0 hO hdeed
  refine (callsIn_wide (n := 4)).1 ?_
  refine callsIn_of_wp_marks Tryz.func17 rfl trivial ?_ rfl
  simp only [Tryz.ntmps17, List.size_toArray, List.length_cons, List.length_nil, Nat.reduceAdd, Nat.reduceSub, Array.replicate_succ, Array.replicate_zero, List.push_toArray, List.append_toArray, List.nil_append, List.cons_append]
  gi_wp2_with (refine ⟨trivial, ?_⟩; gi_at_call 33; refine (callsIn_wide.2 (lines_any _ _)).mono ?_; rintro e w' ⟨rfl, rfl⟩)
  have hB0 : Below w.heap.size w ((w.alloc (.cells #[.int .i64 0] 3)).alloc (.cells #[.string s] 9)) := ((Below.refl _ w).alloc (Nat.le_refl _) _).alloc (by simp) _
  have b0 := (Boxed.new w 3 (.int .i64 0)).alloc (.cells #[.string s] 9)
  have b1 := Boxed.new (w.alloc (.cells #[.int .i64 0] 3)) 9 (.string s)
  rw [World.size_alloc] at b1
  obtain ⟨W0, hW0⟩ : ∃ W0, W0 = (w.alloc (.cells #[.int .i64 0] 3)).alloc (.cells #[.string s] 9) := ⟨_, rfl⟩
  have hzW : W0.heap.size = w.heap.size + 2 := by rw [hW0]; simp
  rw [← hW0] at hB0 b0 b1 ⊢
  clear hW0
  have HE := Lib.hid he
  refine wpIn_rangeFunc_state rfl (by omega) (gf := 48) (lb := #[.pointer (some ⟨w.heap.size + 1, 0, none⟩)]) rfl trivial (enters_of Tryz.func48 (by kernel_rfl) rfl)
    (lines_stops 3 (by omega) w.heap.size (w.heap.size + 1) s (by omega) w W0 rfl hB0 he (by omega) (by omega) b1) (by omega) (fun h k => keepsState_t h k) (fun W l o o' hl ho => keepsState_b W o o' (by omega) (by omega) ho) (fun _ => rfl)
    (CI w) (fun _ _ _ => False) (CI.own w _ (by omega)) (fun c => fun _ _ _ _ h _ _ => h) (fun pre W u h => h.state u) (fun pre W W' h hb => h.call hb)
    ⟨b0, ⟨_, b1⟩, hB0⟩
    (fun x => { tmps := #[.string s, undef, .string ⟨#[]⟩, .int .i64 0, .pointer (some ⟨w.heap.size, 0, none⟩), undef, undef, undef, undef, undef, undef, undef, .string s, .int .i64 s.size, .bool (decide ((1048576 : Int) < s.size)), .string s, .func (.func 48) #[] #[.pointer (some ⟨w.heap.size + 1, 0, none⟩)], .string x, undef, undef, undef, undef, undef, undef, undef, undef, undef, undef, undef, undef, undef, undef, undef, undef, undef, undef, undef, undef, undef, undef, undef, undef, undef, undef, undef, undef, undef, undef], defers := [] }) ?assign ?body ?done ?stop
  case assign =>
    intro l x W K hK
    gi_wp2
    exact hK
  case body =>
    rintro l pre x W hI hpre
    have c1 := hI.n.cell
    have f1 := hI.n.frozen
    have hlen : pre.length ≤ 1000001 := by
      have h1 := hpre.length_le
      unfold linesS Dk.linesL at h1
      have h2 := Dk.lines_many s.data.toList []
      have e : s.data.toList.length = s.size := rfl
      simp at h1; omega
    gi_wp2
    have hs2 := hI.n.set (.int .i64 ((pre.length : Int) + 1))
    refine ⟨KeepsOthers.setCell _ _ _, ⟨(Below.refl _ W).setCell (p := ⟨w.heap.size, 0, none⟩) (Nat.le_refl _) _, fun t v hv => hv.kept (grownBy_setCell' _ w.heap.size _) (by simp)⟩, ?_, ?_, ?_⟩
    · have : ((pre ++ [x]).length : Int) = (pre.length : Int) + 1 := by simp
      rw [this]; exact hs2
    · obtain ⟨q, h2⟩ := hI.st
      exact ⟨q, h2.kept (grownBy_setCell' _ w.heap.size _) (by simp)⟩
    · exact hI.low.setCell (p := ⟨w.heap.size, 0, none⟩) (Nat.le_refl _) _
  case stop =>
    rintro c pre W _ h _
    exact h.elim
  case done =>
    rintro W1 hC hD
    have c1 := hC.n.cell
    obtain ⟨n, hn⟩ : ∃ n, n = (linesS s).length := ⟨_, rfl⟩
    rw [← hn] at c1
    have hnl : n ≤ 1000001 := by
      have h2 := Dk.lines_many s.data.toList []
      have e : s.data.toList.length = s.size := rfl
      rw [hn]; unfold linesS Dk.linesL; simp; omega
    have Hn := Lib.hid hn
    have HC := Lib.hid hC
    clear hn hC
    by_cases hmany : 1000 < n
    · have Hm := Lib.hid hmany
      gi_wp2
      refine ⟨by simp, .inl ⟨_, _, rfl, run_takeDeferred hD, ?_⟩⟩
      refine ⟨_, results_tmp2 rfl _ _ _, ?_⟩
      have hb2 : Below w.heap.size w (W1.putObj W0.heap.size (.deferred none)) := HC.out.low.trans (put_below (by omega) hD)
      refine ⟨hb2, ?_⟩
      rw [← Hn.out, if_pos Hm.out]
      rfl
    · have Hm := Lib.hid hmany
      gi_wp2_with (refine ⟨trivial, ?_⟩; gi_at_call 34; refine (callsIn_wide.2 (diskNew_nil _)).mono ?_; rintro e w' ⟨rfl, rfl⟩)
      refine ⟨trivial, ?_⟩
      refine (callsIn_wide.2 (lines_any _ _)).mono ?_
      rintro e w' ⟨rfl, rfl⟩
      simp only [World.size_alloc, Nat.add_assoc, Nat.reduceAdd]
      gi_wp2
      obtain ⟨k, hk⟩ : ∃ k, k = W1.heap.size := ⟨_, rfl⟩
      have hDk : w.heap.size + 2 < k := by rw [hk, ← hzW]; exact (Array.getElem?_eq_some_iff.1 hD).1
      have a1 := Blk.new W1 112 #[.slice none 0 0, .bool false, .int .i64 0, .int .i64 0]
      obtain ⟨V1, hV1⟩ : ∃ V1, V1 = W1.alloc (.cells #[.slice none 0 0, .bool false, .int .i64 0, .int .i64 0] 112) := ⟨_, rfl⟩
      have z1 : V1.heap.size = k + 1 := by rw [hV1, hk]; simp
      have u1 : Below W1.heap.size W1 V1 := by rw [hV1]; exact (Below.refl _ _).alloc (Nat.le_refl _) _
      rw [← hV1] at a1 ⊢
      rw [← hk] at a1 ⊢
      obtain ⟨cs, hcs⟩ : ∃ cs, cs = (Tryz.zeroCells95).setIfInBounds 48 (.pointer (some ⟨k, 0, none⟩)) := ⟨_, rfl⟩
      rw [← hcs]
      have a2 := Blk.new V1 95 cs
      obtain ⟨V2, hV2⟩ : ∃ V2, V2 = V1.alloc (.cells cs 95) := ⟨_, rfl⟩
      have z2 : V2.heap.size = k + 2 := by rw [hV2, World.size_alloc, z1]
      have u2 : Below V1.heap.size V1 V2 := by rw [hV2]; exact (Below.refl _ _).alloc (Nat.le_refl _) _
      rw [← hV2, z1] at a2
      rw [← hV2]
      have a3 := Boxed.new V2 72 (.pointer (some ⟨k + 1, 0, none⟩))
      obtain ⟨V3, hV3⟩ : ∃ V3, V3 = V2.alloc (.cells #[.pointer (some ⟨k + 1, 0, none⟩)] 72) := ⟨_, rfl⟩
      have z3 : V3.heap.size = k + 3 := by rw [hV3, World.size_alloc, z2]
      have u3 : Below V2.heap.size V2 V3 := by rw [hV3]; exact (Below.refl _ _).alloc (Nat.le_refl _) _
      rw [← hV3, z2] at a3
      rw [← hV3]
      have a4 := Blk.new V3 98 #[.pointer none, .slice none 0 0]
      obtain ⟨V4, hV4⟩ : ∃ V4, V4 = V3.alloc (.cells #[.pointer none, .slice none 0 0] 98) := ⟨_, rfl⟩
      have z4 : V4.heap.size = k + 4 := by rw [hV4, World.size_alloc, z3]
      have u4 : Below V3.heap.size V3 V4 := by rw [hV4]; exact (Below.refl _ _).alloc (Nat.le_refl _) _
      rw [← hV4, z3] at a4
      rw [← hV4]
      have a5 := Boxed.new V4 9 (.string s)
      obtain ⟨V5, hV5⟩ : ∃ V5, V5 = V4.alloc (.cells #[.string s] 9) := ⟨_, rfl⟩
      have z5 : V5.heap.size = k + 5 := by rw [hV5, World.size_alloc, z4]
      have u5 : Below V4.heap.size V4 V5 := by rw [hV5]; exact (Below.refl _ _).alloc (Nat.le_refl _) _
      rw [← hV5, z4] at a5
      rw [← hV5]
      have u24 : Below V2.heap.size V2 V5 := (u3.trans (u4.mono (by omega))).trans (u5.mono (by omega))
      have u15 : Below W1.heap.size W1 V5 := (u1.trans (u2.mono (by omega))).trans (u24.mono (by omega))
      have hlow : Below w.heap.size w V5 := HC.out.low.trans (u15.mono (by omega))
      have hdesk : DeskAt V5 (k + 1) k (.slice none 0 0) := by
        refine ⟨⟨cs, a2.below u24 (by omega), ?_, ?_, ?_, ?_⟩, ⟨_, a1.below ((u2.trans (u24.mono (by omega)))) (by omega), rfl⟩⟩
        · rw [hcs, Array.size_setIfInBounds]; exact dcells.1
        · rw [hcs, Array.getElem?_setIfInBounds_ne (by decide)]; exact dcells.2.1
        · rw [hcs, Array.getElem?_setIfInBounds_self]; rw [if_pos (by rw [dcells.1]; decide)]
        · rw [hcs, Array.getElem?_setIfInBounds_ne (by decide)]; exact dcells.2.2
      have hbr : ∀ b', BR (k + 3) b' (Lib.byteCells (O 0)) V5 := fun b' => by
        rw [HO0.out]
        exact ⟨_, _, .inl rfl, a4.below u5 (by omega), ⟨rfl, .inl ⟨rfl, rfl⟩⟩, by simp [Value.ownBlock]⟩
      have hpd : Boxed V5 (k + 2) 72 (.pointer (some ⟨k + 1, 0, none⟩)) := ((u4.trans (u5.mono (by omega))).block (k + 2) (by omega)).trans a3
      have hdf : V5.heap[w.heap.size + 2]? = some (.deferred (some [])) := (u15.block _ (by omega)).trans (by rw [← hzW]; exact hD)
      have hI0 : RIx w S O (w.heap.size + 2) k [] V5 := ⟨w.heap.size, Nat.le_refl _, ⟨_, hdesk, by show SlotIs _ _ (S 0) _ _; rw [HS0.out]; trivial⟩, hpd, hbr _, fun _ => hbr, ⟨_, a5⟩, hdf, hlow, hlow.size⟩
      have HK := Lib.hid hk
      clear hk hzW
      clear hV1 hV2 hV3 hV4 hV5 a1 a2 a3 a4 u1 u2 u3 u4 u5 u24 hpd hdf hbr hdesk hD c1 hcs
      refine wpIn_rangeFunc_state rfl (by omega) (gf := 48) (lb := #[.pointer (some ⟨k + 4, 0, none⟩)]) rfl trivial (enters_of Tryz.func48 (by kernel_rfl) rfl)
        (lines_stops 3 (by omega) w.heap.size (k + 4) s (by omega) w V5 rfl hlow he (by omega) (by omega) a5) (by omega) (fun h k => keepsState_t h k) (fun W l o o' hl ho => keepsState_b W o o' (by omega) (by omega) ho) (fun _ => rfl)
        (RIx w S O (w.heap.size + 2) k) (fun _ _ _ => False) (RIx.own _ (by omega) (by omega)) (fun c => fun _ _ _ _ h _ _ => h) (fun pre W u h => h.state (by omega) u) (fun pre W W' h hb => h.call hb)
        hI0
        (fun x => { tmps := #[.string s, undef, .string ⟨#[]⟩, .int .i64 0, .pointer (some ⟨w.heap.size, 0, none⟩), .pointer (some ⟨k, 0, none⟩), .int .i64 0, .pointer (some ⟨k + 2, 0, none⟩), .pointer (some ⟨k + 3, 0, none⟩), .string x, undef, undef, .string s, .int .i64 s.size, .bool (decide ((1048576 : Int) < s.size)), .string s, .func (.func 48) #[] #[.pointer (some ⟨w.heap.size + 1, 0, none⟩)], undef, undef, undef, .int .i64 n, .bool (decide ((1000 : Int) < n)), .tuple #[.pointer (some ⟨k, 0, none⟩), .int .i64 0], .tuple #[.pointer (some ⟨k, 0, none⟩), .int .i64 0], .pointer (some ⟨k, 0, none⟩), .int .i64 0, .pointer (some ⟨k, 0, none⟩), .agg cs, .pointer (some ⟨k + 1, 0, none⟩), .string s, .func (.func 48) #[] #[.pointer (some ⟨k + 4, 0, none⟩)], .string x, undef, undef, undef, undef, undef, undef, undef, undef, undef, undef, undef, undef, undef, undef, undef, undef], defers := [] }) ?assign2 ?body2 ?done2 ?stop2
      case assign2 =>
        intro l x W K hK
        gi_wp2
        exact hK
      case stop2 =>
        rintro c pre W _ h _
        exact h.elim
      case body2 =>
        rintro l pre x W ⟨base, hbs, hI⟩ hpre
        obtain ⟨i, hi⟩ : ∃ i, i = pre.length := ⟨_, rfl⟩
        have hlen : i < (linesS s).length := by
          have := hpre.length_le
          rw [List.length_append, List.length_singleton] at this; omega
        have hx : (linesS s)[i] = x := by
          obtain ⟨t, ht⟩ := hpre
          have : (linesS s)[i]? = some x := by rw [← ht, hi]; simp
          rw [List.getElem?_eq_getElem hlen] at this
          injection this
        have hxs : x.size ≤ 60000 := by
          have : x ∈ linesS s := by rw [← hx]; exact List.getElem_mem hlen
          unfold linesS at this
          obtain ⟨y, hy, rfl⟩ := List.mem_map.1 this
          have h2 := Dk.lines_short _ _ y hy
          have e : s.data.toList.length = s.size := rfl
          show y.length ≤ _
          simp at h2; omega
        obtain ⟨a, ha, hOa, hSt⟩ := HD.out i hlen
        rw [hx] at ha
        have hal : (O i).length + a.length + 1 ≤ 2000000000 := by
          have := HO.out (i + 1) hlen
          rw [hOa] at this; simp at this; omega
        have HI := Lib.hid hI
        have HEW : Hid (Env W) := HE.out.stays hI.low
        have HOa := Lib.hid hOa
        have HSt := Lib.hid hSt
        have Hi := Lib.hid hi
        have hlw := hI.low.size
        clear hOa hSt hi hI hx hpre
        cases ha with
        | bad hl hst he =>
          have Hl := Lib.hid hl
          have Hst := Lib.hid hst
          subst he
          clear hl hst
          gi_wp2
          refine ⟨trivial, ?_⟩
          refine (CallsIn.inRound l (callsIn_wide.2 (parse_any x W hxs HEW.out))).mono ?_
          intro e w1 hp
          obtain ⟨rfl, hb1⟩ := parse_of_none hp Hl.out
          have HB1 : Hid (Below W.heap.size W (w1.alloc (.cells #[.string ⟨#[]⟩, .slice none 0 0, .slice none 0 0] 26))) := hb1.trans (((Below.refl _ w1).alloc (Nat.le_refl _) _).mono hb1.size)
          clear hp hb1
          unfold noLine
          gi_wp2
          refine ⟨trivial, ?_⟩
          refine (CallsIn.inRound l (callsIn_wide.2 (told_any 120 _ (by omega) (by omega) (HEW.out.stays HB1.out)))).mono ?_
          rintro e w2 ⟨rfl, hb2⟩
          have HB2 := Lib.hid (HB1.out.trans (hb2.mono HB1.out.size))
          have hz2 := HB2.out.size
          have hbz := HI.out.hb
          have hr2 := HI.out.bld.below HB2.out
          rw [← Hi.out] at hr2
          have HR2 := Lib.hid hr2
          obtain ⟨u, hu1, hu2⟩ := HI.out.desk
          have HU1 := Lib.hid (hu1.below HB2.out)
          have HU2 := Lib.hid (hu2.stays HB2.out)
          clear hb2 hr2 hu1 hu2
          gi_wp2
          refine ⟨trivial, ?_⟩
          refine (CallsIn.inRound l (callsIn_wide.2 (writeString_r (k + 3) base (Lib.byteCells (O i)) ⟨(toldL 120).toArray⟩ w2 HR2.out (by rw [Lib.byteCells_length]; show _ + (toldL 120).length ≤ _; omega) (by omega)))).mono ?_
          rintro e w3 ⟨rfl, hr3, hw3⟩
          have hz3 := hw3.size
          have HR3 := Lib.hid hr3
          have HW3 := Lib.hid hw3
          clear hr3 hw3
          gi_wp2
          refine ⟨trivial, ?_⟩
          refine (CallsIn.inRound l (callsIn_wide.2 (writeByte_r (k + 3) base _ 10 w3 HR3.out (by rw [List.length_append, Lib.byteCells_length, Lib.strCells_length]; show _ + (toldL 120).length + 1 ≤ _; omega) (by omega)))).mono ?_
          rintro e w4 ⟨rfl, hr4, hw4⟩
          have hz4 := hw4.size
          have HR4 := Lib.hid hr4
          have HW4 := Lib.hid hw4
          clear hr4 hw4
          gi_wp2
          have hi := Hi.out
          subst hi
          refine RI.next HI.out (by omega) hbs (((Rnd.of_below HB2.out).trans (Rnd.of_wrote HR2.out HW3.out)).trans (Rnd.of_wrote HR3.out HW4.out)) ⟨u, (HU1.out.wrote HR2.out HW3.out).wrote HR3.out HW4.out, ?_⟩ ?_ (by omega)
          · rw [Hst.out]; exact (HU2.out.wrote HR2.out HW3.out).wrote HR3.out HW4.out
          · rw [HOa.out]
            have h := HR4.out
            rw [strCells_bytes] at h
            simpa [Lib.byteCells] using h
        | play ln hl hp =>
          have Hl := Lib.hid hl
          have Hp := Lib.hid hp
          clear hl hp
          gi_wp2
          refine ⟨trivial, ?_⟩
          refine (CallsIn.inRound l (callsIn_wide.2 (parse_any x W hxs HEW.out))).mono ?_
          intro e w1 hp
          obtain ⟨v, rfl, _, _, hb1, hown⟩ := parse_of_some hp Hl.out
          have hown0 := hown
          obtain ⟨T, b0, Lb, word, vn, vb, rfl, hm, _⟩ := hown0
          obtain ⟨An, cn, rfl, _⟩ := reads_own hm.nums
          obtain ⟨xs, r1, _⟩ := hm.rows
          obtain ⟨Ab, cb, rfl, _⟩ := reads_own r1
          obtain ⟨w2, hw2⟩ : ∃ w2, w2 = w1.alloc (.cells #[.string word, .slice An ln.nums.length cn, .slice Ab ln.bytes.length cb] 26) := ⟨_, rfl⟩
          have hba : Below w1.heap.size w1 w2 := by rw [hw2]; exact (Below.refl _ w1).alloc (Nat.le_refl _) _
          have hB2 : Below W.heap.size W w2 := hb1.trans (hba.mono hb1.size)
          have HB2 := Lib.hid hB2
          have HOw := Lib.hid (hown.stays hba)
          have hz2 := hB2.size
          have HEw : Hid (Env w2) := HEW.out.stays hB2
          obtain ⟨u, hu1, hu2⟩ := HI.out.desk
          rw [← Hi.out] at hu2
          obtain ⟨base', hb', HT, hBR, hSl⟩ : ∃ base', (w.heap.size ≤ base' ∧ base' ≤ w2.heap.size) ∧ Hid (S (i + 1) = S i ∨ w2.heap.size ≤ base') ∧ Hid (BR (k + 3) base' (Lib.byteCells (O i)) W) ∧ Hid (SlotIs w.heap.size W (S i) u base') := by
            rcases HSt.out with h | h
            · refine ⟨base, ⟨hbs, by have := HI.out.hb; omega⟩, .inl h, ?_, hu2⟩
              have := HI.out.bld; rw [← Hi.out] at this; exact this
            · have hp0 : pre = [] := by have := Hi.out; rw [h] at this; exact List.eq_nil_of_length_eq_zero this.symm
              refine ⟨w2.heap.size, ⟨by omega, Nat.le_refl _⟩, .inr (Nat.le_refl _), ?_, ?_⟩
              · have := HI.out.fresh hp0 w2.heap.size; rw [← Hi.out] at this; exact this
              · rw [h, HS0.out]; trivial
          have HU1 := Lib.hid (hu1.below hB2)
          have HU2 := Lib.hid (hSl.out.stays hB2)
          have hpd := (HI.out.pd.alloc (.cells #[] 0))
          have pc : w2.cell? ⟨k + 2, 0, none⟩ = some (.pointer (some ⟨k + 1, 0, none⟩)) := cell_stays hB2 HI.out.pd.cell
          have HR2 := Lib.hid (hBR.out.below hB2)
          have Hw2 := Lib.hid hw2
          have pc1 : w1.cell? ⟨k + 2, 0, none⟩ = some (.pointer (some ⟨k + 1, 0, none⟩)) := cell_stays hb1 HI.out.pd.cell
          have hkl : k + 2 < w1.heap.size := World.block_lt_of_cell? w1 _ pc1
          clear hp hb1 hown hm r1 hba hB2 hu1 hu2 hpd hw2
          gi_wp2
          rw [← Hw2.out]
          refine ⟨trivial, ?_⟩
          refine (CallsIn.inRound l (callsIn_wide.2 (play_any Hp.out w.heap.size (k + 1) k base' u _ W.heap.size w2 hlw HU1.out HU2.out HOw.out HT.out HEw.out))).mono ?_
          rintro e w3 ⟨rfl, hm3, u3, hd3, hs3⟩
          have hz3 := hm3.size
          have HM3 := Lib.hid hm3
          have HD3 := Lib.hid hd3
          have HS3 := Lib.hid hs3
          have HR3 := Lib.hid (HR2.out.moved HU1.out hm3)
          clear hm3 hd3 hs3
          have hb1' := hb'.1
          have hb2' := hb'.2
          gi_wp2
          refine ⟨trivial, ?_⟩
          refine (CallsIn.inRound l (callsIn_wide.2 (writeString_r (k + 3) base' (Lib.byteCells (O i)) ⟨a.toArray⟩ w3 HR3.out (by rw [Lib.byteCells_length]; show _ + a.length ≤ _; omega) (by omega)))).mono ?_
          rintro e w4 ⟨rfl, hr4, hw4⟩
          have hz4 := hw4.size
          have HR4 := Lib.hid hr4
          have HW4 := Lib.hid hw4
          clear hr4 hw4
          gi_wp2
          refine ⟨trivial, ?_⟩
          refine (CallsIn.inRound l (callsIn_wide.2 (writeByte_r (k + 3) base' _ 10 w4 HR4.out (by rw [List.length_append, Lib.byteCells_length, Lib.strCells_length]; show _ + a.length + 1 ≤ _; omega) (by omega)))).mono ?_
          rintro e w5 ⟨rfl, hr5, hw5⟩
          have hz5 := hw5.size
          have HR5 := Lib.hid hr5
          have HW5 := Lib.hid hw5
          clear hr5 hw5
          gi_wp2
          have hi := Hi.out
          subst hi
          refine RI.next HI.out (by omega) hb1' ((((Rnd.of_below HB2.out).trans (Rnd.of_moved HM3.out)).trans (Rnd.of_wrote HR3.out HW4.out)).trans (Rnd.of_wrote HR4.out HW5.out)) ⟨u3, (HD3.out.wrote HR3.out HW4.out).wrote HR4.out HW5.out, (HS3.out.wrote HR3.out HW4.out).wrote HR4.out HW5.out⟩ ?_ (by omega)
          rw [HOa.out]
          have h := HR5.out
          rw [strCells_bytes] at h
          simpa [Lib.byteCells] using h
      case done2 =>
        rintro W2 ⟨base, hbs, hI⟩ hD2
        have HI := Lib.hid hI
        have hlw := hI.low.size
        have HN : Hid (n = (linesS s).length) := Hn.out
        clear hI
        gi_wp2
        refine ⟨trivial, ?_⟩
        refine (callsIn_wide.2 (Tryz.Builder_String_any_k w.heap.size (k + 3) (O (linesS s).length) W2 (HI.out.bld.builder (by omega) hbs) (by omega))).mono ?_
        rintro e W3 ⟨rfl, _, hb3, hk3⟩
        have hdf : W3.heap[w.heap.size + 2]? = some (.deferred (some [])) := hk3 _ _ HI.out.df (by intro e; injection e; omega) (by intro c fz e; cases e)
        have hdf2 : W3.heap[V5.heap.size]? = some (.deferred (some [])) := hk3 _ _ hD2 (by intro e; injection e; omega) (by intro c fz e; cases e)
        have Hb3 := Lib.hid (HI.out.low.trans hb3)
        have hdf3 : (W3.putObj V5.heap.size (.deferred none)).heap[w.heap.size + 2]? = some (.deferred (some [])) := (World.putObj_heap_other (by omega)).trans hdf
        have Hfin : Hid (Below w.heap.size w ((W3.putObj V5.heap.size (.deferred none)).putObj (w.heap.size + 2) (.deferred none))) := (Hb3.out.trans (put_below (by omega) hdf2)).trans (put_below (by omega) hdf3)
        rw [z5] at hdf2 hdf3 Hfin
        gi_wp2
        refine ⟨by simp, .inl ⟨_, _, rfl, run_takeDeferred hdf2, ?_⟩⟩
        refine ⟨by simp, .inl ⟨_, _, rfl, run_takeDeferred hdf3, ?_⟩⟩
        refine ⟨_, results_tmp2 rfl _ _ _, Hfin.out, ?_⟩
        rw [← Hn.out, if_neg Hm.out]
        rfl
end Go.Proofs.YtigfogpfcbcdhaaGreatDoor
