/- An argument that is a line: what it holds, opened out of memory, and how long its parts are. No condition but the form's own reach. -/
import Derived.Test.YtigfogpfcbcdhaaGreatDoorDeskC
import Derived.Test.YtigfogpfcbcdhaaGreatDoorDeskF
import Derived.Lib.SmallJoins
import Derived.Deep.Matrix
import Derived.Carry
import Derived.ChangeSlices
import Derived.SizedLaws
set_option linter.unusedVariables false
set_option linter.unusedSimpArgs false
namespace Go.Proofs.YtigfogpfcbcdhaaGreatDoor
open Go Go.ChangeShapes Go.WideShapes Go.ChangeAt Go.RowKit Go.Deep
theorem laidOut8 : laidOutB Tryz.prog = true := by kernel_rfl
theorem cells8 : Tryz.prog.cellsOf 5 = 1 := by kernel_rfl
theorem cells64 : Tryz.prog.cellsOf 2 = 1 := by kernel_rfl
theorem cellsB8 : Tryz.prog.cellsOf 52 = 1 := by kernel_rfl
theorem wf_u8 {x : Int} (h : (Lit.int .u8 x).wf = true) : 0 ≤ x ∧ x < 256 := by
  have h1 : IntKind.u8.min = 0 := rfl
  have h2 : IntKind.u8.max = 255 := rfl
  simp only [Lit.wf, Bool.and_eq_true, decide_eq_true_eq] at h
  omega
theorem reads_ints {w : World} {k : IntKind} {a : Addr} {len : Nat} {zs : List Int} (hl : len ≤ zs.length) (hcell : ∀ i, i < zs.length → w.cell? (a.add i) = some (.int k (zs.getD i 0))) :
    Reads w w.heap.size 1 (some a) len ((zs.take len).map fun n => .int k n) := by
  refine ⟨by simp; omega, fun h0 => ?_⟩
  have hc0 := hcell 0 (by omega)
  have hb0 := World.block_lt_of_cell? w _ hc0
  rw [block_of_add] at hb0
  refine ⟨a, rfl, hb0, fun j u hu => ?_⟩
  have hj : j < len := by
    have := (List.getElem?_eq_some_iff.1 hu).1
    simp at this; omega
  rw [hcell j (by omega), ← hu]
  have e : (zs.take len)[j]? = some (zs[j]'(by omega)) := by rw [List.getElem?_take, if_pos hj, List.getElem?_eq_getElem (by omega)]
  simp only [List.getElem?_map, e, Option.map_some]
  rw [List.getD_eq_getElem?_getD, List.getElem?_eq_getElem (by omega)]
  rfl
/-- Numbers that are bytes, as bytes. -/
def asBytes (zs : List Int) : List UInt8 := zs.map fun n => UInt8.ofNat n.toNat
theorem asBytes_cells {zs : List Int} (h : ∀ n ∈ zs, (Lit.int .u8 n).wf = true) : (zs.map fun n => Value.int .u8 n) = Lib.byteCells (asBytes zs) := by
  unfold asBytes Lib.byteCells
  rw [List.map_map]
  refine List.map_congr_left fun n hn => ?_
  have hw := wf_u8 (h n hn)
  have e2 : (UInt8.ofNat n.toNat).toNat = n.toNat := by rw [UInt8.toNat_ofNat']; omega
  simp only [Function.comp, e2]
  congr 1
  omega
theorem weightsAll_mem {H : Type} {P : Program} {e : TypeId} : ∀ {l : List (DataW H)} {d : DataW H}, d ∈ l → ∀ {n : Nat}, n ∈ d.weights P e → n ∈ DataW.weightsAll P e l
  | x :: r, d, hm, n, hn => by
    rw [DataW.weightsAll]
    rcases List.mem_cons.1 hm with rfl | hm
    · exact List.mem_append_left _ hn
    · exact List.mem_append_right _ (weightsAll_mem hm hn)
section
variable {H : Type} {enc : TypeId × Value → H} {W : World}
theorem open_nums {fuel : Nat} {v : Value} {y : DataW H × List MemPlace} (h : DataW.trod enc Tryz.prog W 0 (fun _ => true) true fuel 23 [v] = some y) :
    ∃ ns : List Int, Is W NoAv v (numsD ns) ∧ Dk.In64 ns ∧ (ns = [] ∨ ∃ n ∈ y.1.weights Tryz.prog 23, ns.length ≤ n) := by
  rcases open_ints Tryz.underlying23 Tryz.underlying2 cells64 h with ⟨hcs, hx⟩ | ⟨a, len, cap, zs, hcs, _, hl, hm, hz, hx, hcell, hwz⟩
  · simp at hcs
    subst hcs
    exact ⟨[], Is.row_ (us := []) (by simp) (by decide) (by simp) ⟨rfl, fun j u d hu => by simp at hu⟩ (fun h => by simp at h), (by intro n hn; cases hn), .inl rfl⟩
  · simp at hcs
    subst hcs
    simp only [if_true] at hz
    refine ⟨zs.take len, ?_, ?_, .inr ?_⟩
    · have hr := reads_ints (len := len) (by omega) hcell
      have := Is.ofReads (Av := NoAv) hr hl (fun _ _ => id)
      unfold numsD
      rw [List.map_map] at this
      exact this
    · intro n hn
      have := hwz n (List.mem_of_mem_take hn)
      have h1 : IntKind.i64.min = -9223372036854775808 := rfl
      have h2 : IntKind.i64.max = 9223372036854775807 := rfl
      simp only [Lit.wf, Bool.and_eq_true, decide_eq_true_eq] at this
      omega
    · have hb : Tryz.prog.bytesOf 2 = 8 := by kernel_rfl
      refine ⟨_, by rw [hx, DataW.weights.eq_def]; simp only [Tryz.underlying23]; exact List.mem_cons_self, ?_⟩
      rw [hb]
      simp only [lits, List.length_map, List.length_take, List.length_drop]
      omega
theorem open_rows {fuel : Nat} {v : Value} {y : DataW H × List MemPlace} (h : DataW.trod enc Tryz.prog W 0 (fun _ => true) true fuel 24 [v] = some y) :
    ∃ bs : List (List UInt8), Is W NoAv v (rowsD bs) ∧ (bs = [] ∨ ∃ n ∈ y.1.weights Tryz.prog 24, bs.length ≤ n) ∧ ∀ b ∈ bs, b = [] ∨ ∃ n ∈ y.1.weights Tryz.prog 24, b.length ≤ n := by
  rcases open_int_rows Tryz.underlying24 Tryz.underlying52 Tryz.underlying5 cellsB8 cells8 h with ⟨hcs, hx⟩ | ⟨a, len, cap, A, L, C, Z, hcs, _, hl, hm, hx, hr⟩
  · simp at hcs
    subst hcs
    exact ⟨[], Is.row_ (us := []) (by simp) (by decide) (by simp) ⟨rfl, fun j u d hu => by simp at hu⟩ (fun h => by simp at h), .inl rfl, (by intro b hb; cases hb)⟩
  · simp at hcs
    subst hcs
    have hd : ∀ r, r < cap → Is W NoAv (.slice (A r) (L r) (C r)) (bytesD (asBytes ((Z r).take (L r)))) := by
      intro r hrc
      obtain ⟨_, h2, h3, h4, h5, h6, h7⟩ := hr r hrc
      have e1 : (asBytes ((Z r).take (L r))).length = L r := by unfold asBytes; simp; omega
      have hR : Reads W W.heap.size 1 (A r) (L r) (Lib.byteCells (asBytes ((Z r).take (L r)))) := by
        rw [← asBytes_cells (fun n hn => h5 n (List.mem_of_mem_take hn))]
        cases hA : A r with
        | none =>
          have := h6 hA
          have e0 : L r = 0 := by omega
          rw [e0]; exact ⟨by simp, fun h => by omega⟩
        | some a' => exact reads_ints (by omega) (fun i hi => (h7 a' hA).2 i (by omega))
      have := Is.ofBytes (Av := NoAv) (l := asBytes ((Z r).take (L r))) (c := C r) (A := A r) (by rw [e1]; exact hR) (by rw [e1]; exact h2) (fun _ _ => id)
      rwa [e1] at this
    refine ⟨(List.range len).map fun r => asBytes ((Z r).take (L r)), ?_, .inr ?_, ?_⟩
    · refine Is.row_ (us := (List.range len).map fun r => .slice (A r) (L r) (C r)) (by simp) (by decide) hl ⟨by simp, fun j u d hu hd' => ?_⟩ fun h0 => ?_
      · have hj : j < len := by have := (List.getElem?_eq_some_iff.1 hu).1; simpa using this
        rw [List.getElem?_map, List.getElem?_range hj] at hu
        rw [List.getElem?_map, List.getElem?_map, List.getElem?_range hj] at hd'
        simp at hu hd'
        subst hu; subst hd'
        exact hd j (by omega)
      · have h2 := (hr 0 (by omega)).1
        have h3 := World.cell?_spot h2
        obtain ⟨g, o, sp⟩ := a
        simp [Addr.add] at h3
        subst h3
        refine ⟨g, o, rfl, id, fun j u hu => ?_⟩
        have hj : j < len := by have := (List.getElem?_eq_some_iff.1 hu).1; simpa using this
        rw [List.getElem?_map, List.getElem?_range hj] at hu
        simp at hu
        subst hu
        have := (hr j (by omega)).1
        unfold Addr.add at this
        split at this
        · rename_i hj; subst hj; exact this
        · exact this
    · have hb : Tryz.prog.bytesOf 52 = 24 := by kernel_rfl
      refine ⟨_, by rw [hx, DataW.weights.eq_def]; simp only [Tryz.underlying24]; exact List.mem_cons_self, ?_⟩
      rw [hb]
      simp only [List.length_map, List.length_range]
      omega
    · intro b hb
      obtain ⟨r, hr0, rfl⟩ := List.mem_map.1 hb
      have hrl := List.mem_range.1 hr0
      obtain ⟨_, h2, h3, h4, h5, h6, h7⟩ := hr r (by omega)
      cases hA : A r with
      | none =>
        have := h6 hA
        left
        unfold asBytes
        have e0 : L r = 0 := by omega
        rw [e0]; rfl
      | some a' =>
        right
        have hb8 : Tryz.prog.bytesOf 5 = 1 := by kernel_rfl
        have hm : (intRow .u8 (A r) (L r) (Z r) : DataW H) ∈ (List.range len).map fun r => intRow .u8 (A r) (L r) (Z r) := List.mem_map.2 ⟨r, hr0, rfl⟩
        have hw : (lits .u8 ((Z r).take (L r)) : List (DataW H)).length + (lits .u8 ((Z r).drop (L r)) : List (DataW H)).length = (Z r).length := by
          simp only [lits, List.length_map, List.length_take, List.length_drop]; omega
        refine ⟨(Z r).length, ?_, by unfold asBytes; rw [List.length_map, List.length_take]; exact Nat.min_le_right _ _⟩
        rw [hx, DataW.weights.eq_def]
        simp only [Tryz.underlying24]
        refine List.mem_cons_of_mem _ (List.mem_append_left _ (weightsAll_mem hm ?_))
        rw [hA, intRow, DataW.weights.eq_def]
        simp only [Tryz.underlying52, hb8, hw, Nat.mul_one]
        exact List.mem_cons_self
set_option maxRecDepth 100000 in
/-- A line that came in. -/
theorem opened_line {b0 : Nat} {v : Value} {d : DataW H} {p : List MemPlace} (hv : Value.okWide Tryz.prog W .any b0 30 v) (h0 : DataW.Trod enc Tryz.prog W 0 (fun _ => true) true 30 v d p)
    (hz : ∀ n ∈ d.weights Tryz.prog 30, n ≤ reachBytes) : ∃ l : Dk.Ln, LineAt W NoAv v l ∧ Dk.Room l ∧ Dk.In64 l.nums := by
  obtain ⟨v0, v1, v2, y0, y1, y2, n, rfl, rfl, rfl, t0, t1, t2⟩ := Joins.open_agg3 Tryz.underlying30 (by kernel_rfl) (by kernel_rfl) hv h0
  obtain ⟨s, hs, hy0, _⟩ := DataW.trod_string Tryz.underlying9 t0
  simp at hs
  subst hs
  obtain ⟨ns, h1, hi, hn⟩ := open_nums t1
  obtain ⟨bs, h2, hb, hbb⟩ := open_rows t2
  have hmem : ∀ n, n ∈ y0.1.weights Tryz.prog 9 ∨ n ∈ y1.1.weights Tryz.prog 23 ∨ n ∈ y2.1.weights Tryz.prog 24 → n ≤ reachBytes := by
    intro n hn
    refine hz n ?_
    rw [DataW.weights.eq_def]
    simp only [Tryz.underlying30]
    simp only [List.map_cons, List.map_nil, DataW.weightsEach, List.mem_append]
    rcases hn with hn | hn | hn
    · exact .inl hn
    · exact .inr (.inl hn)
    · exact .inr (.inr (.inl hn))
  have hR : reachBytes ≤ 2305843009213693952 := by unfold reachBytes; omega
  refine ⟨⟨s.data.toList, ns, bs⟩, ⟨v1, v2, rfl, h1, h2⟩, ⟨?_, ?_, ?_, ?_⟩, hi⟩
  · have := hmem s.data.toList.length (.inl (by rw [hy0, DataW.weights.eq_def]; exact List.mem_singleton.2 rfl))
    exact Nat.le_trans this hR
  · rcases hn with rfl | ⟨m, hm, hl⟩
    · simp
    · exact Nat.le_trans hl (Nat.le_trans (hmem m (.inr (.inl hm))) hR)
  · rcases hb with rfl | ⟨m, hm, hl⟩
    · simp
    · exact Nat.le_trans hl (Nat.le_trans (hmem m (.inr (.inr hm))) hR)
  · intro b hbm
    rcases hbb b hbm with rfl | ⟨m, hm, hl⟩
    · simp
    · exact Nat.le_trans hl (Nat.le_trans (hmem m (.inr (.inr hm))) hR)
end
/-- The plain wrap, with a premise on the world, the world's shape and the form's reach kept. -/
theorem handed_shaped_sized {H : Type} {enc : TypeId × Value → H} {a : Assume} {C : Checked} {os : Os} {f : FuncId} {fn : Func} {s : ChangeSpec} {conds : List PathCond} {apart fresh handsOn again : Bool} {X : World → Array Value → Prop}
    (hX : ∀ (w w' : World) (args : Array Value), w.heap = w'.heap → X w args → X w' args)
    (own : ownKnob C.prog.godebug = none) (started : os.Started) (noInit : C.prog.inits.idxOf? f = none) (hfn : C.prog.funcs[f]? = some fn)
    (witness : ∃ (w : World) (tape : Tape) (i : Input), w.os = os ∧ (w.forCall tape i).Shaped C.prog ∧ i.vars = [] ∧ Input.okWide C.prog (w.forCall tape i) .any w.heap.size f i ∧
      ((s.pre enc C.prog fn conds apart (w.forCall tape i).memory i.args ∧ X (w.forCall tape i).memory i.args) ∧ sizedMet enc C.prog fn (OpenSpec.ofChange s) apart (w.forCall tape i).memory i.args) ∧ a.holds C.prog (lone (Frame.enter C.prog f i.args .normal) [] (w.forCall tape i)))
    (contract : ∀ (W : World) (base : Nat) (args : Array Value) (ds gs : List (DataW H)) (before : List MemPlace),
      (∀ (j : Nat) t v, fn.params[j]? = some t → args[j]? = some v → Value.okWide C.prog W .any base t v) →
      DataW.Whole enc C.prog fn.params.toList s.vars apart W args.toList ds gs before →
      (DataW.weightsEach C.prog (fn.params.toList ++ (OpenSpec.ofChange s).bare.plain.varTypes C.prog) (ds ++ gs)).all (· ≤ reachBytes) = true →
      X W args → W.ShapedOpen C.prog →
      Calls C.prog f args W fun e W' => ∃ v, e = .returned v ∧ s.post enc C.prog fn apart fresh handsOn again W args v W') :
    ReturnsInHanded a C os f .any (fun w args => (s.pre enc C.prog fn conds apart w args ∧ X w args) ∧ sizedMet enc C.prog fn (OpenSpec.ofChange s) apart w args) (s.post enc C.prog fn apart fresh handsOn again) := by
  refine returnsInHanded_of_calls own started noInit witness ?_
  intro w tape i _ hsh _ hok hpre hholds
  obtain ⟨_, _, _, fn', hfn', _, _, _, _, hval⟩ := hok
  have e : fn' = fn := Option.some.inj (hfn'.symm.trans hfn)
  subst e
  obtain ⟨⟨⟨ds, gs, before, hw, hc⟩, hx⟩, hz⟩ := hpre
  have hw' := DataW.Whole.of_heap (w' := w.forCall tape i) (by rfl) hw
  refine (contract (w.forCall tape i) w.heap.size i.args ds gs before hval hw' (hz.weights hw) (hX _ _ _ (by rfl) hx) hsh).mono fun e W' ⟨v, he, hp⟩ => ?_
  subst he
  exact ChangeSpec.post_blind hp
end Go.Proofs.YtigfogpfcbcdhaaGreatDoor
