/- The walk of the reference's Parse: the one line of a text, or none. Condition: the text is short. -/
import Derived.Test.YtigfogpfcbcdhaaGreatDoorRefT
import Derived.Test.YtigfogpfcbcdhaaGreatDoorDeskQ2
import Derived.Deep.RegionLaw
set_option linter.unusedVariables false
set_option linter.unusedSimpArgs false
namespace Go.Proofs.YtigfogpfcbcdhaaGreatDoor
open Go Go.RowKit
theorem refret_line (tmps : Array Value) (w : World) {P : Nat} {cs : Array Value} {c0 c1 c2 x : Value} (hB : Blk w P 30 cs) (hc : cs = #[c0, c1, c2]) (h2 : tmps[2]?.getD undef = .pointer (some ⟨P, 0, none⟩)) (h3 : tmps[3]?.getD undef = x) :
    (results Tryz.f9 tmps).run Tryz.prog w = .ok (.tuple #[.agg #[c0, c1, c2], x]) w := by
  subst hc
  have g0 : w.cell? ⟨P, 0, none⟩ = some c0 := by rw [hB.cell]; rfl
  have g1 : w.cell? ⟨P, 1, none⟩ = some c1 := by rw [hB.cell]; rfl
  have g2 : w.cell? ⟨P, 2, none⟩ = some c2 := by rw [hB.cell]; rfl
  simp [results, Tryz.results9, go_sem, h2, h3, g0, g1, g2]
/-- 'x = append(x, u)' at a row of one-cell elements, inside a region that draws its order. -/
theorem step_pushE {P : Program} {ops : Array Oper} {o : Oper} {a : Act} {K : Act → World → Prop} {Q : Exit → Act → World → Prop} {E : Prop} (hgd : o.guard = none) (s x : Operand) (t e : TypeId)
    (ho : o.op = .call { callee := .builtin .append, args := #[s, x], argTypes := #[t, t] }) (base : Nat) (i : TypeInfo) (z : Value) (bytes : Nat) (ht : P.underlying t = some (.slice e)) (hi : P.info? e = some i) (hz : i.zero = some z)
    (hsize : i.size = 1) (hby : i.bytes = bytes) (hzs : z.cells.size = 1) (v : Value) (n : Nat) (xs : List Value) (hs : a.eval s = v) (W : World) (hown : W.ownsRow base e 1 v n xs)
    (u : Value) (hu : u.oneCell' = true) (g cap : Nat) (hc : W.cell? ⟨g, 0, none⟩ = some u) (hx : a.eval x = .slice (some ⟨g, 0, none⟩) 1 cap) (hl : n ≤ 10000000) (hby2 : bytes ≤ 1000) (hbase : base ≤ W.heap.size)
    (h : ∀ v' w', w'.ownsRow base e 1 v' (n + 1) (xs ++ [u]) → W.grownBy w' v.ownBlock → K (a.put o.dst v') w') : if Region.wanted o (yielded ops a.tmps) = true then Oper.wp P o a W K Q else E := by
  have hr : Reads W (g + 1) 1 (some ⟨g, 0, none⟩) 1 [u] :=
    ⟨rfl, fun _ => ⟨_, rfl, by simp, fun j y hy => by
      match j, hy with
      | 0, hy => simp at hy; subst hy; simpa [Addr.add] using hc⟩⟩
  have hm : (n + 1) * bytes ≤ (10000000 + 1) * 1000 := Nat.mul_le_mul (by omega) hby2
  exact step_append_any W hgd s x t ho base e i z 1 bytes ht hi hz hsize hby hzs (by omega) v n xs hs hown _ _ 1 cap _ hx hr (by intro y hy; simp at hy; subst hy; exact hu) (by simp only [maxLen]; omega) (by omega) hbase (fun v' w' h1 h2 _ => h v' w' h1 h2)
theorem numberOf_same (s : ByteArray) (w : World) (hs : s.size ≤ 60000) : Calls Tryz.prog 26 #[.string s] w fun e w' => e = .returned (.int .i64 (Dk.nbR s.data.toList)) ∧ w' = w :=
  (numberOf_any s w hs).mono fun _ _ ⟨h, hw⟩ => ⟨h, hw.symm⟩
abbrev pR := Dk.pstep Dk.ubR Dk.nbR Dk.gAny Dk.gAny
/-- After so many letters of the form, and so many pieces. -/
structure VInv (F : ByteArray) (ws0 : List (List UInt8)) (N i a : Nat) (ns : List Int) (bs : List (List UInt8)) : Prop where
  st : (F.data.toList.take i).foldl pR ([], [], ws0, true) = (ns, bs, ws0.drop a, true)
  ha : a ≤ ws0.length
  ln : ns.length ≤ i
  lb : bs.length ≤ a
  short : (∀ b ∈ bs, b.length ≤ N) ∧ (∀ x ∈ ws0, x.length ≤ N)
  i64 : Dk.In64 ns
theorem VInv.step {F : ByteArray} {ws0 : List (List UInt8)} {N i a : Nat} {ns : List Int} {bs : List (List UInt8)} (h : VInv F ws0 N i a ns bs) (hp : i < F.size) :
    (F.data.toList.take (i + 1)).foldl pR ([], [], ws0, true) = pR (ns, bs, ws0.drop a, true) F[i] := by
  have e : F.data.toList.take (i + 1) = F.data.toList.take i ++ [F[i]] := List.take_succ_eq_append_getElem (l := F.data.toList) hp
  rw [e, List.foldl_append, h.st]; rfl
theorem VInv.nil_ {F : ByteArray} {ws0 : List (List UInt8)} {N i a : Nat} {ns : List Int} {bs : List (List UInt8)} (h : VInv F ws0 N i a ns bs) (hp : i < F.size) (he : ws0.length ≤ a) : VInv F ws0 N (i + 1) a ns bs :=
  ⟨by rw [h.step hp, List.drop_eq_nil_of_le he]; rfl, h.ha, by have := h.ln; omega, h.lb, h.short, h.i64⟩
theorem ubR_le (l : List UInt8) : (Dk.ubR l).length ≤ l.length := by rw [Dk.ubR_length]; omega
theorem VInv.hex {F : ByteArray} {ws0 : List (List UInt8)} {N i a : Nat} {ns : List Int} {bs : List (List UInt8)} (h : VInv F ws0 N i a ns bs) (hp : i < F.size) (ha : a < ws0.length) (h4 : F[i] = 104) : VInv F ws0 N (i + 1) (a + 1) ns (bs ++ [Dk.ubR ws0[a]]) := by
  refine ⟨by rw [h.step hp, h4, List.drop_eq_getElem_cons ha]; rfl, ha, by have := h.ln; omega, by have := h.lb; simp; omega, ⟨fun b hb => ?_, h.short.2⟩, h.i64⟩
  rw [List.mem_append, List.mem_singleton] at hb
  rcases hb with hb | rfl
  · exact h.short.1 b hb
  · exact Nat.le_trans (ubR_le _) (h.short.2 _ (List.getElem_mem ha))
theorem VInv.num {F : ByteArray} {ws0 : List (List UInt8)} {N i a : Nat} {ns : List Int} {bs : List (List UInt8)} (h : VInv F ws0 N i a ns bs) (hp : i < F.size) (ha : a < ws0.length) (h4 : F[i] ≠ 104) (h2 : F[i] ≠ 42) : VInv F ws0 N (i + 1) (a + 1) (ns ++ [Dk.nbR ws0[a]]) bs := by
  refine ⟨?_, ha, by have := h.ln; simp; omega, by have := h.lb; omega, h.short, fun n hn => ?_⟩
  · rw [h.step hp, List.drop_eq_getElem_cons ha]
    unfold pR Dk.pstep
    simp only
    rw [if_neg h4, if_neg h2]
    rfl
  · rw [List.mem_append, List.mem_singleton] at hn
    rcases hn with hn | rfl
    · exact h.i64 n hn
    · exact Dk.num64R _
/-- In the letter '*'. -/
theorem VInv.star {F : ByteArray} {ws0 : List (List UInt8)} {N i a : Nat} {ns : List Int} {bs : List (List UInt8)} (h : VInv F ws0 N i a ns bs) (hp : i < F.size) (ha : a < ws0.length) (h2 : F[i] = 42) : VInv F ws0 N (i + 1) ws0.length ns (bs ++ (ws0.drop a).map Dk.ubR) := by
  refine ⟨?_, Nat.le_refl _, by have := h.ln; omega, by have := h.lb; simp; omega, ⟨fun b hb => ?_, h.short.2⟩, h.i64⟩
  · rw [h.step hp, h2, List.drop_length]
    obtain ⟨x, t, e⟩ : ∃ x t, ws0.drop a = x :: t := ⟨_, _, List.drop_eq_getElem_cons ha⟩
    rw [e]
    unfold pR Dk.pstep
    simp only
    rw [if_neg (by decide)]
    simp [Dk.gAny]
  · rw [List.mem_append, List.mem_map] at hb
    rcases hb with hb | ⟨x, hx, rfl⟩
    · exact h.short.1 b hb
    · exact Nat.le_trans (ubR_le _) (h.short.2 _ (List.mem_of_mem_drop hx))
theorem row_cell {w : World} {B n : Nat} {v : Value} {ps : List (List UInt8)} (h : w.ownsRow B 9 1 v n (strCells ps)) (hn : n = ps.length) (h0 : 0 < n) : ∃ g cap, v = .slice (some ⟨g, 0, none⟩) n cap ∧ ∀ j (hj : j < n), w.cell? ⟨g, j, none⟩ = some (.string ⟨(ps[j]'(by omega)).toArray⟩) := by
  obtain ⟨m, rfl⟩ : ∃ m, n = m + 1 := ⟨n - 1, by omega⟩
  obtain ⟨g, cap, rfl⟩ := own_succ h
  refine ⟨g, cap, rfl, fun j hj => ?_⟩
  rw [h.cellAt j (by omega)]
  simp [strCells, List.getElem?_eq_getElem (show j < ps.length by omega)]
set_option maxHeartbeats 2000000 in
set_option maxRecDepth 100000 in
theorem refparse_none (s : ByteArray) (w : World) (hs : s.size ≤ 60000) (x0 : List UInt8) (ws0 : List (List UInt8)) (hsp : Dk.split s.data.toList = x0 :: ws0) (hfm : Dk.formL x0 = none) :
    Calls Tryz.prog 9 #[.string s] w (ParsePost s.data.toList w) := by
  have Hl : Hid (Dk.lineOf s.data.toList = none) := Dk.lineOf_word hsp hfm
  have Hsp := Lib.hid hsp
  have HF : Hid (formVal x0 = .tuple #[.string ⟨#[]⟩, .bool false]) := formVal_none hfm
  clear hsp hfm
  go_enter Tryz.func9, Tryz.ntmps9
  go_wp2_with fail
  refine (split_any s _ hs).mono ?_
  rintro e w1 ⟨v, rfl, hrow, hb⟩
  rw [Hsp.out] at hrow
  obtain ⟨g, cap, rfl, hcells⟩ := row_cell hrow rfl (by simp)
  have hP : Hid (Blk w1 w.heap.size 30 #[.string ⟨#[]⟩, .slice none 0 0, .slice none 0 0]) := (Blk.new w _ _).below hb (by simp)
  have Hb : Hid (Below w.heap.size w w1 ∧ w.heap.size < w1.heap.size) := ⟨((Below.refl _ w).alloc (Nat.le_refl _) _).trans (hb.mono (by simp)), by have := hb.size; simp at this; omega⟩
  obtain ⟨X, hX⟩ : ∃ X : ByteArray, X = ⟨x0.toArray⟩ := ⟨_, rfl⟩
  have hg0 : w1.cell? ⟨g, 0, none⟩ = some (.string X) := by have := hcells 0 (by simp); rw [hX]; exact this
  have HX : Hid (X.data.toList = x0) := by show _ = _; rw [hX]
  obtain ⟨n, hn⟩ : ∃ n, n = (x0 :: ws0).length := ⟨_, rfl⟩
  rw [← hn]
  have hn0 : 0 < n := by rw [hn]; simp
  clear hrow hb hcells hX hn
  go_wp2_with fail
  refine (refform_any X _).mono ?_
  rintro e w2 ⟨rfl, hb2⟩
  rw [HX.out, HF.out]
  have hP2 : Hid (Blk w2 w.heap.size 30 #[.string ⟨#[]⟩, .slice none 0 0, .slice none 0 0]) := hP.out.below hb2 Hb.out.2
  have hp0 : w2.cell? ⟨w.heap.size, 0, none⟩ = some (.string ⟨#[]⟩) := by rw [hP2.out.cell]; rfl
  have hp1 : w2.cell? ⟨w.heap.size, 1, none⟩ = some (.slice none 0 0) := by rw [hP2.out.cell]; rfl
  have hp2 : w2.cell? ⟨w.heap.size, 2, none⟩ = some (.slice none 0 0) := by rw [hP2.out.cell]; rfl
  have hf0 := hP2.out.frozen 0
  have hf1 := hP2.out.frozen 1
  have hf2 := hP2.out.frozen 2
  have Hb2 := Lib.hid (Hb.out.1.trans (hb2.mono (by have := Hb.out.2; omega)))
  clear hb2
  go_wp2_with fail
  have hB := ((hP2.out.set_ 0 (.string ⟨#[]⟩)).set_ 1 (.slice none 0 0)).set_ 2 (.slice none 0 0)
  have HB2 := Lib.hid (((Hb2.out.setCell (p := ⟨w.heap.size, 0, none⟩) (Nat.le_refl _) (.string ⟨#[]⟩)).setCell (p := ⟨w.heap.size, 1, none⟩) (Nat.le_refl _) (.slice none 0 0)).setCell (p := ⟨w.heap.size, 2, none⟩) (Nat.le_refl _) (.slice none 0 0))
  exact bodyPost_ret (v := .tuple #[noLine, .int .i64 120]) (refret_line _ _ hB rfl rfl rfl) rfl (parse_no (Hl.out) rfl HB2.out)
end Go.Proofs.YtigfogpfcbcdhaaGreatDoor
