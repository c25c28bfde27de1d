/- The walk of the reference's Parse where the first word has a form. Condition: the text is short. -/
import Derived.Test.YtigfogpfcbcdhaaGreatDoorRefQ
set_option linter.unusedVariables false
set_option linter.unusedSimpArgs false
namespace Go.Proofs.YtigfogpfcbcdhaaGreatDoor
open Go Go.RowKit
theorem low_push {B Lb j n : Nat} {w1 w4 w5 : World} {v v' : Value} {e : TypeId} {xs : List Value} (hb : Below B w1 w4) (hB : B ≤ w4.heap.size) (r : w4.ownsRow B e 1 v n xs) (g : w4.grownBy w5 v.ownBlock) (hL : B ≤ Lb) : Below B w1 (w5.setCell ⟨Lb, j, none⟩ v') :=
  (hb.grown g hB (fun k hk => (r.lt k hk).1)).setCell (p := ⟨Lb, j, none⟩) hL _
/-- Two worlds of one memory. -/
def Like (W V : World) : Prop := W.heap = V.heap ∧ W.os = V.os ∧ W.tape = V.tape ∧ W.output = V.output
theorem Like.cell {W V : World} (h : Like W V) {p : Addr} {u : Value} (hu : V.cell? p = some u) : W.cell? p = some u :=
  (World.cell?_of_block (by rw [h.1])).trans hu
theorem Like.own {W V : World} (h : Like W V) {B : Nat} {e : TypeId} {z n : Nat} {v : Value} {xs : List Value} (r : V.ownsRow B e z v n xs) : W.ownsRow B e z v n xs := by
  refine ⟨r.1, ?_⟩
  rw [h.1]
  exact r.2
theorem Like.grown {W w : World} {b : Obj} {g : Option Nat} (h : Like W (w.alloc b)) : w.grownBy W g :=
  ⟨h.2.1, h.2.2.1, h.2.2.2, by rw [h.1]; simp, fun k hk _ => by rw [h.1]; exact Below.heap_alloc w _ k hk⟩
set_option maxHeartbeats 8000000 in
set_option maxRecDepth 100000 in
theorem refparse_loop (s F : ByteArray) (x0 : List UInt8) (ws0 : List (List UInt8)) (w : World) (hs : s.size ≤ 60000) (hsp : Dk.split s.data.toList = x0 :: ws0) (hfm : Dk.formL x0 = some F.data.toList) :
    Calls Tryz.prog 9 #[.string s] w (ParsePost s.data.toList w) := by
  obtain ⟨i2, hi2, hz20, hz21, hz22⟩ := info_parts infoI64
  obtain ⟨i5, hi5, hz50, hz51, hz52⟩ := info_parts infoRow
  have Hsp := Lib.hid hsp
  have Hfm := Lib.hid hfm
  have Hlet : Hid (∀ (i : Nat) (h : i < F.size), F[i] = 104 ∨ F[i] = 42 ∨ F[i] = 110 ∨ F[i] = 107 ∨ F[i] = 114) := by
    intro i h
    have := Dk.form_all (p := fun _ f => f.all fun c => c == 104 || c == 42 || c == 110 || c == 107 || c == 114) (by decide +kernel) hfm
    have := List.all_eq_true.1 this F[i] (List.getElem_mem (l := F.data.toList) h)
    simpa [or_assoc] using this
  have hF9 : F.size ≤ 9 := by
    have := Dk.form_all (p := fun _ f => decide (f.length ≤ 9)) (by decide +kernel) hfm
    exact of_decide_eq_true this
  have HF : Hid (formVal x0 = .tuple #[.string F, .bool true]) := by
    have := formVal_some hfm; rw [Lib.mk_data] at this; exact this
  have hws : ws0.length ≤ s.size ∧ ∀ y ∈ ws0, y.length ≤ s.size := by
    have h1 := Dk.split_count s.data.toList
    have h2 := Dk.split_short s.data.toList
    rw [hsp] at h1 h2
    have e : s.data.toList.length = s.size := rfl
    refine ⟨by simp at h1; omega, fun y hy => by have := h2 y (by simp [hy]); omega⟩
  have HV0 : Hid (VInv F ws0 s.size 0 0 [] []) := ⟨rfl, Nat.zero_le _, Nat.le_refl _, Nat.le_refl _, ⟨by intro b hb; simp at hb, hws.2⟩, by intro n hn; simp at hn⟩
  clear hsp hfm
  go_enter Tryz.func9, Tryz.ntmps9
  go_wp2_with fail
  refine (split_any s _ hs).mono ?_
  rintro e w1 ⟨v, rfl, hrow, hb⟩
  rw [Hsp.out] at hrow
  obtain ⟨n, hn⟩ : ∃ n, n = (x0 :: ws0).length := ⟨_, rfl⟩
  have hnw : n = ws0.length + 1 := by rw [hn]; simp
  have HNW := Lib.hid hnw
  rw [← hn] at hrow
  obtain ⟨gs, cap, rfl, hcells⟩ := row_cell hrow hn (by omega)
  have hP : Hid (Blk w1 w.heap.size 30 #[.string ⟨#[]⟩, .slice none 0 0, .slice none 0 0]) := (Blk.new w _ _).below hb (by simp)
  have Hb : Hid (Below w.heap.size w w1 ∧ w.heap.size < w1.heap.size) := ⟨((Below.refl _ w).alloc (Nat.le_refl _) _).trans (hb.mono (by simp)), by have := hb.size; simp at this; omega⟩
  obtain ⟨X, hX⟩ : ∃ X : ByteArray, X = ⟨x0.toArray⟩ := ⟨_, rfl⟩
  have hg0 : w1.cell? ⟨gs, 0, none⟩ = some (.string X) := by have := hcells 0 (by omega); rw [hX]; simpa using this
  have HX : Hid (X.data.toList = x0) := by show _ = _; rw [hX]
  have Hcells1 : Hid (∀ j (hj : j < ws0.length), w1.cell? ⟨gs, j + 1, none⟩ = some (.string ⟨(ws0[j]'hj).toArray⟩)) := fun j hj => by
    have := hcells (j + 1) (by omega); simpa using this
  have hn0 : 0 < n := by omega
  have hn1 : n ≤ 70000 := by omega
  clear hrow hb hcells hX hn hnw
  go_wp2_with fail
  refine (refform_any X _).mono ?_
  rintro e w2 ⟨rfl, hb2⟩
  rw [HX.out, HF.out]
  have hP2 : Hid (Blk w2 w.heap.size 30 #[.string ⟨#[]⟩, .slice none 0 0, .slice none 0 0]) := hP.out.below hb2 Hb.out.2
  have Hb2 : Hid (Below w.heap.size w w2 ∧ w.heap.size < w2.heap.size) := ⟨Hb.out.1.trans (hb2.mono (by have := Hb.out.2; omega)), by have := hb2.size; have := Hb.out.2; omega⟩
  have hg2 : w2.cell? ⟨gs, 0, none⟩ = some (.string X) := cell_stays hb2 hg0
  have Hcells : Hid (∀ j (hj : j < ws0.length), w2.cell? ⟨gs, j + 1, none⟩ = some (.string ⟨(ws0[j]'hj).toArray⟩)) := fun j hj => cell_stays hb2 (Hcells1.out j hj)
  clear hb2 hg0 Hcells1
  go_wp2_with fail
  have hsz0 := Hb2.out.2
  clear hg2
  go_loopw [8, 9] (fun t8 t9 wr => ∃ (i a a1 : Nat) (ns : List Int) (bs : List (List UInt8)) (vn vb : Value), t8 = .int .i64 a1 ∧ t9 = .int .i64 i ∧ i ≤ F.size ∧ a1 ≤ n ∧ Hid (a1 = a + 1 ∧ VInv F ws0 s.size i a ns bs ∧ PMem 30 w2.heap.size wr w2.heap.size X vn vb ns bs ∧ Below w2.heap.size w2 wr)) (fun _ t9 _ => F.size - (intOf t9).toNat)
  case atStart =>
    refine ⟨0, 0, 1, [], [], .slice none 0 0, .slice none 0 0, rfl, rfl, Nat.zero_le _, by omega, rfl, HV0.out, ⟨Blk.new w2 _ _, Nat.le_refl _, World.ownsRow_nil _ _ _ _, [], World.ownsRow_nil _ _ _ _, rfl, by intro j u b h; simp at h⟩, (Below.refl _ w2).alloc (Nat.le_refl _) _⟩
  case round =>
    obtain ⟨i, a, a1, ns, bs, vn, vb, rfl, rfl, hi, ha1, HI⟩ := hrel
    have hszr := HI.out.2.2.2.size
    by_cases hp : i < F.size
    · have hlet := Hlet.out i hp
      obtain ⟨c, hc⟩ : ∃ c : UInt8, F[i] = c := ⟨_, rfl⟩
      rw [hc] at hlet
      have Hc := Lib.hid hc
      by_cases han : a1 < n
      · have ha : a < ws0.length := by have := HI.out.1; have := HNW.out; omega
        have hd1 : decide ((a1 : Int) < (n : Int)) = true := decide_eq_true (by omega)
        obtain ⟨Y, hY⟩ : ∃ Y : ByteArray, Y = ⟨(ws0[a]'ha).toArray⟩ := ⟨_, rfl⟩
        have hcw : wr.cell? ⟨gs, a1, none⟩ = some (.string Y) := by
          have h := cell_stays HI.out.2.2.2 (Hcells.out a ha)
          rw [hY, HI.out.1]; exact h
        have hYz : Y.size ≤ s.size := by rw [hY]; exact hws.2 _ (List.getElem_mem ha)
        have HY : Hid (Y.data.toList = ws0[a]'ha) := by show _ = _; rw [hY]
        have HI2 := Lib.hid HI.out.1
        have hbl : bs.length ≤ 10000000 := by have := HI.out.2.1.lb; omega
        have hnl : ns.length ≤ 10000000 := by have := HI.out.2.1.ln; omega
        clear hY
        rcases (show c = 104 ∨ c = 42 ∨ (c ≠ 104 ∧ c ≠ 42) by by_cases h4 : c = 104 <;> by_cases h2 : c = 42 <;> simp_all) with h4 | h4 | ⟨h4, h2⟩
        · subst h4
          have Hn : Hid (VInv F ws0 s.size (i + 1) (a + 1) ns (bs ++ [Dk.ubR Y.data.toList])) := by
            have := HI.out.2.1.hex hp ha Hc.out; rw [← HY.out] at this; exact this
          go_wp2_with fail
          go_loopw [8] (fun t8 wx => t8 = .int .i64 a1 ∧ wx = wr) (fun _ _ => 0)
          case atStart => exact ⟨rfl, rfl⟩
          case round =>
            obtain ⟨rfl, rfl⟩ := hrel
            go_wp2_with fail
            refine (bytesOf_any Y _ (by omega)).mono ?_
            rintro e w4 ⟨u, rfl, hu, hb4⟩
            have Hpm4 := Lib.hid (HI.out.2.2.1.stays hb4)
            have Hu := Lib.hid (own_low hu (b' := w2.heap.size) (by omega))
            have hbw4 := Lib.hid (HI.out.2.2.2.trans (hb4.mono (by omega)))
            have hBz : w2.heap.size ≤ w4.heap.size := by have := hb4.size; omega
            obtain ⟨xs, r1, r2, r3⟩ := Hpm4.out.rows
            have R1 := Lib.hid r1
            have R2 := Lib.hid r2
            have R3 := Lib.hid r3
            obtain ⟨A, cu, rfl, _⟩ := reads_own Hu.out
            have c4 : w4.cell? ⟨w2.heap.size, 2, none⟩ = some vb := by rw [Hpm4.out.blk.cell]; rfl
            obtain ⟨b, hb⟩ : ∃ b, b = Dk.ubR Y.data.toList := ⟨_, rfl⟩
            rw [← hb] at Hn Hu
            rw [← hb]
            clear hu hb4 r1 r2 r3 hb
            go_wp2_with (refine wpList_pushE rfl (.tmp 55) (.tmp 57) 24 52 rfl w2.heap.size i5 _ 24 Tryz.underlying24 hi5 hz50 hz51 hz52 rfl vb bs.length xs rfl R1.out _ rfl 1 rfl hbl (by decide) hBz ?_; intro v5 w5 o5 g5 k5; obtain ⟨gg, cc, rfl⟩ := own_succ o5; have hL := Lib.hid (Hpm4.out.blk.grown g5 (fun e => own_blk_ne R1.out Hpm4.out.blk (by decide) e.symm)); have c5 : w5.cell? ⟨w2.heap.size, 2, none⟩ = some vb := (by rw [hL.out.cell]; rfl); have f5 := hL.out.frozen 2; have O5 := Lib.hid o5; have G5 := Lib.hid g5; clear o5 g5 k5)
            refine ⟨⟨i + 1, a + 1, a1 + 1, ns, bs ++ [b], vn, _, by go_num, by go_num, by omega, by omega, by have := HI2.out; omega, Hn.out, Hpm4.out.row (by decide) Hu.out R1.out R2.out R3.out O5.out G5.out, low_push hbw4.out hBz R1.out G5.out (Nat.le_refl _)⟩, by simp [intOf]; omega⟩
        · subst h4
          have Hfin : Hid (VInv F ws0 s.size (i + 1) ws0.length ns (bs ++ (ws0.drop a).map Dk.ubR)) := HI.out.2.1.star hp ha Hc.out
          have hlb := HI.out.2.1.lb
          go_wp2_with fail
          go_loopw [8] (fun t8 wx => ∃ (k : Nat) (bs2 : List (List UInt8)) (vb2 : Value), t8 = .int .i64 k ∧ k ≤ n ∧ Hid (∃ j, k = a1 + j ∧ bs2 = bs ++ ((ws0.drop a).take j).map Dk.ubR ∧ PMem 30 w2.heap.size wx w2.heap.size X vn vb2 ns bs2 ∧ Below w2.heap.size w2 wx)) (fun t8 _ => n - (intOf t8).toNat)
          case atStart => exact ⟨a1, bs, vb, rfl, ha1, 0, rfl, by simp, HI.out.2.2.1, HI.out.2.2.2⟩
          case round =>
            obtain ⟨k, bs2, vb2, rfl, hk, HJ⟩ := hrel
            obtain ⟨j, hj1, hj2, hpm, hbx⟩ := HJ.out
            have Hj1 := Lib.hid hj1
            have Hj2 := Lib.hid hj2
            have Hpm := Lib.hid hpm
            have Hbx := Lib.hid hbx
            have hxz := hbx.size
            clear hj1 hj2 hpm hbx
            by_cases hkn : k < n
            · have haj : a + j < ws0.length := by have := HI2.out; have := HNW.out; have := Hj1.out; omega
              have hd2 : decide ((k : Int) < (n : Int)) = true := decide_eq_true (by omega)
              obtain ⟨Z, hZ⟩ : ∃ Z : ByteArray, Z = ⟨(ws0[a + j]'haj).toArray⟩ := ⟨_, rfl⟩
              have hcz : wr.cell? ⟨gs, k, none⟩ = some (.string Z) := by
                have h := cell_stays Hbx.out (Hcells.out (a + j) haj)
                have e : k = a + j + 1 := by have := HI2.out; have := Hj1.out; omega
                rw [hZ, e]; exact h
              have hZz : Z.size ≤ s.size := by rw [hZ]; exact hws.2 _ (List.getElem_mem haj)
              have Hn : Hid (bs2 ++ [Dk.ubR Z.data.toList] = bs ++ ((ws0.drop a).take (j + 1)).map Dk.ubR) := by
                show _ = _
                have e : (ws0.drop a).take (j + 1) = (ws0.drop a).take j ++ [ws0[a + j]'haj] := by
                  rw [List.take_succ_eq_append_getElem (by rw [List.length_drop]; omega)]; simp
                rw [Hj2.out, e, hZ]; simp
              have hbl2 : bs2.length ≤ 10000000 := by
                rw [Hj2.out]; simp; have := hws.1; omega
              clear hZ
              go_wp2_with fail
              refine (bytesOf_any Z _ (by omega)).mono ?_
              rintro e w4 ⟨u, rfl, hu, hb4⟩
              have Hpm4 := Lib.hid (Hpm.out.stays hb4)
              have Hu := Lib.hid (own_low hu (b' := w2.heap.size) (by omega))
              have hbw4 := Lib.hid (Hbx.out.trans (hb4.mono (by omega)))
              have hBz : w2.heap.size ≤ w4.heap.size := by have := hb4.size; omega
              obtain ⟨xs, r1, r2, r3⟩ := Hpm4.out.rows
              have R1 := Lib.hid r1
              have R2 := Lib.hid r2
              have R3 := Lib.hid r3
              obtain ⟨A, cu, rfl, _⟩ := reads_own Hu.out
              have c4 : w4.cell? ⟨w2.heap.size, 2, none⟩ = some vb2 := by rw [Hpm4.out.blk.cell]; rfl
              obtain ⟨b, hb⟩ : ∃ b, b = Dk.ubR Z.data.toList := ⟨_, rfl⟩
              rw [← hb] at Hn Hu
              rw [← hb]
              clear hu hb4 r1 r2 r3 hb
              go_wp2_with (refine wpList_pushE rfl (.tmp 55) (.tmp 57) 24 52 rfl w2.heap.size i5 _ 24 Tryz.underlying24 hi5 hz50 hz51 hz52 rfl vb2 bs2.length xs rfl R1.out _ rfl 1 rfl hbl2 (by decide) hBz ?_; intro v5 w5 o5 g5 k5; obtain ⟨gg, cc, rfl⟩ := own_succ o5; have hL := Lib.hid (Hpm4.out.blk.grown g5 (fun e => own_blk_ne R1.out Hpm4.out.blk (by decide) e.symm)); have c5 : w5.cell? ⟨w2.heap.size, 2, none⟩ = some vb2 := (by rw [hL.out.cell]; rfl); have f5 := hL.out.frozen 2; have O5 := Lib.hid o5; have G5 := Lib.hid g5; clear o5 g5 k5)
              refine ⟨⟨k + 1, bs2 ++ [b], _, by go_num, by omega, j + 1, by have := Hj1.out; omega, Hn.out, Hpm4.out.row (by decide) Hu.out R1.out R2.out R3.out O5.out G5.out, low_push hbw4.out hBz R1.out G5.out (Nat.le_refl _)⟩, by simp [intOf]; omega⟩
            · have hd2 : decide ((k : Int) < (n : Int)) = false := decide_eq_false (by omega)
              have hd3 : decide (k < n) = false := decide_eq_false hkn
              have Hf : Hid (VInv F ws0 s.size (i + 1) ws0.length ns bs2) := by
                have h := Hfin.out
                have e : (ws0.drop a).take j = ws0.drop a := List.take_of_length_le (by rw [List.length_drop]; have := HI2.out; have := HNW.out; have := Hj1.out; omega)
                have e2 : bs2 = bs ++ (ws0.drop a).map Dk.ubR := by rw [Hj2.out, e]
                rw [← e2] at h; exact h
              have Hkn := Lib.hid (show n ≤ k by omega)
              clear hkn
              go_wp2_with fail
              refine ⟨⟨i + 1, ws0.length, k, ns, bs2, vn, vb2, rfl, by go_num, by omega, hk, by have := HI2.out; have := HNW.out; have := Hkn.out; omega, Hf.out, Hpm.out, Hbx.out⟩, by simp [intOf]; omega⟩
        · have h4' : ((c.toNat : Int) == 104) = false := by
            rw [beq_eq_false_iff_ne]; intro e; apply h4; apply UInt8.toNat_inj.1; simpa using (show c.toNat = 104 by omega)
          have h2' : ((c.toNat : Int) == 42) = false := by
            rw [beq_eq_false_iff_ne]; intro e; apply h2; apply UInt8.toNat_inj.1; simpa using (show c.toNat = 42 by omega)
          have h2'' : ((c.toNat : Int) != 42) = true := by simp at h2' ⊢; omega
          have Hn : Hid (VInv F ws0 s.size (i + 1) (a + 1) (ns ++ [Dk.nbR Y.data.toList]) bs) := by
            have := HI.out.2.1.num hp ha (by rw [Hc.out]; exact h4) (by rw [Hc.out]; exact h2); rw [← HY.out] at this; exact this
          have Hpm := Lib.hid HI.out.2.2.1
          have Hbx := Lib.hid HI.out.2.2.2
          have hlt := Hpm.out.blk.lt
          have R1 := Lib.hid Hpm.out.nums
          have q1 : wr.cell? ⟨w2.heap.size, 1, none⟩ = some vn := by rw [Hpm.out.blk.cell]; rfl
          obtain ⟨k, hk⟩ : ∃ k, k = Dk.nbR Y.data.toList := ⟨_, rfl⟩
          have HK := Lib.hid hk
          rw [← hk] at Hn
          have HW : Hid (∀ (q : Bool) (W : World), Like W (wr.alloc (.cells #[.int .i64 k] 2)) → W.cell? ⟨wr.heap.size, 0, none⟩ = some (.int .i64 k) ∧ W.ownsRow w2.heap.size 2 1 vn ns.length (ns.map (Value.int .i64)) ∧ w2.heap.size ≤ W.heap.size) := by
            intro _ W hW
            refine ⟨hW.cell (by rw [World.cell?_alloc_new]; rfl), ?_, by rw [hW.1]; simp; omega⟩
            exact hW.own (R1.out.alloc _)
          have HA : Hid (∀ (W : World) v5 w5 , Like W (wr.alloc (.cells #[.int .i64 k] 2)) → w5.ownsRow w2.heap.size 2 1 v5 (ns.length + 1) (ns.map (Value.int .i64) ++ [.int .i64 k]) → W.grownBy w5 vn.ownBlock → wr.grownBy w5 vn.ownBlock ∧ Blk w5 w2.heap.size 30 #[.string X, vn, vb]) := by
            intro W v5 w5 hW o5 g5
            have g : wr.grownBy w5 vn.ownBlock := grown_trans2 hW.grown g5 (fun g hg => .inl hg)
            exact ⟨g, Hpm.out.blk.grown g (fun e => own_blk_ne R1.out Hpm.out.blk (by decide) e.symm)⟩
          clear h4 h2 hk
          go_wp2_with fail
          go_loopw [8] (fun t8 wx => t8 = .int .i64 a1 ∧ wx = wr) (fun _ _ => 0)
          case atStart => exact ⟨rfl, rfl⟩
          case round =>
            obtain ⟨rfl, rfl⟩ := hrel
            go_wp2_with fail
            go_region_law (first | (go_simp; go_at_call 26; refine (numberOf_same _ _ (by omega)).mono ?_; rintro e wq ⟨rfl, rfl⟩; rw [← HK.out]) | (refine step_pushE rfl (.tmp 61) (.tmp 67) 23 2 rfl w2.heap.size i2 _ 8 Tryz.underlying23 hi2 hz20 hz21 hz22 rfl vn ns.length (ns.map (Value.int .i64)) rfl _ (HW.out true _ (by exact ⟨rfl, rfl, rfl, rfl⟩)).2.1 (.int .i64 k) rfl wr.heap.size 1 (HW.out true _ (by exact ⟨rfl, rfl, rfl, rfl⟩)).1 rfl hnl (by decide) (HW.out true _ (by exact ⟨rfl, rfl, rfl, rfl⟩)).2.2 ?_; intro v5 w5 o5 g5; obtain ⟨gg, cc, rfl⟩ := own_succ o5; have hL := Lib.hid (HA.out _ _ _ (by exact ⟨rfl, rfl, rfl, rfl⟩) o5 g5); have c5 : w5.cell? ⟨w2.heap.size, 1, none⟩ = some vn := (by rw [hL.out.2.cell]; rfl); have f5 := hL.out.2.frozen 1; have O5 := Lib.hid o5; clear o5 g5))
            all_goals
              go_wp2_with fail
              refine ⟨⟨i + 1, a + 1, a1 + 1, ns ++ [k], bs, _, vb, by go_num, by go_num, by omega, by omega, by have := HI2.out; omega, Hn.out, Hpm.out.num (by decide) O5.out hL.out.1, low_push Hbx.out (by omega) R1.out hL.out.1 (Nat.le_refl _)⟩, by simp [intOf]; omega⟩
      · have hd1 : decide ((a1 : Int) < (n : Int)) = false := decide_eq_false (by omega)
        have hd2 : decide (a1 < n) = false := decide_eq_false han
        have Hn := Lib.hid (HI.out.2.1.nil_ hp (by have := HI.out.1; have := HNW.out; omega))
        clear han
        go_wp2_with fail
        go_loopw [8] (fun t8 wx => t8 = .int .i64 a1 ∧ wx = wr) (fun _ _ => 0)
        case atStart => exact ⟨rfl, rfl⟩
        case round =>
          obtain ⟨rfl, rfl⟩ := hrel
          go_wp2_with fail
          refine ⟨⟨i + 1, a, a1, ns, bs, vn, vb, rfl, by go_num, by omega, ha1, HI.out.1, Hn.out, HI.out.2.2.1, HI.out.2.2.2⟩, by simp [intOf]; omega⟩
    · obtain rfl : i = F.size := by omega
      have hd1 : decide ((F.size : Int) < (F.size : Int)) = false := decide_eq_false (by omega)
      have hd2 : decide (F.size < F.size) = false := decide_eq_false (by omega)
      have hread : Dk.readL Dk.ubR Dk.nbR Dk.gAny Dk.gAny F.data.toList ws0 = (ns, bs, ws0.drop a, true) := by
        have e : F.data.toList.take F.size = F.data.toList := List.take_of_length_le (by show F.data.toList.length ≤ F.size; exact Nat.le_refl _)
        have h := HI.out.2.1.st
        rw [e] at h
        exact h
      have hrl := Dk.reader_line Dk.readerR Dk.num64R Hsp.out Hfm.out
      rw [hread] at hrl
      simp only at hrl
      rw [← HX.out] at hrl
      have Hfine : Hid (Fine ⟨X.data.toList, ns, bs⟩) := ⟨HI.out.2.1.i64, by have := HI.out.2.1.ln; show ns.length ≤ _; omega, by have := HI.out.2.1.lb; have := HI.out.2.1.ha; show bs.length ≤ _; omega, fun b hb => by have := HI.out.2.1.short.1 b hb; omega⟩
      have hxl2 : Hid (X.data.toList.length ≤ 100000) := by
        have h2 := Dk.split_short s.data.toList x0 (by rw [Hsp.out]; simp)
        have e : s.data.toList.length = s.size := rfl
        show _ ≤ _
        rw [HX.out]; omega
      have q0 : wr.cell? ⟨w2.heap.size, 0, none⟩ = some (.string X) := by rw [HI.out.2.2.1.blk.cell]; rfl
      have q1 : wr.cell? ⟨w2.heap.size, 1, none⟩ = some vn := by rw [HI.out.2.2.1.blk.cell]; rfl
      have q2 : wr.cell? ⟨w2.heap.size, 2, none⟩ = some vb := by rw [HI.out.2.2.1.blk.cell]; rfl
      have Hrl := Lib.hid hrl
      clear hread hrl hp
      go_wp2_with fail
      refine (reftext_any _ ⟨X.data.toList, ns, bs⟩ wr HI.out.2.2.1.line Hfine.out hxl2.out).mono ?_
      intro e w5 ht
      unfold TextPost at ht
      have hb5 : Below wr.heap.size wr w5 := by
        split at ht
        · exact ht.2
        · exact ht.2
      have hPm5 := Lib.hid (HI.out.2.2.1.stays hb5)
      have hb15 := Lib.hid (HI.out.2.2.2.trans (hb5.mono hszr))
      have hP5 := Lib.hid (hP2.out.below hb15.out Hb2.out.2)
      have p0 : w5.cell? ⟨w.heap.size, 0, none⟩ = some (.string ⟨#[]⟩) := by rw [hP5.out.cell]; rfl
      have p1 : w5.cell? ⟨w.heap.size, 1, none⟩ = some (.slice none 0 0) := by rw [hP5.out.cell]; rfl
      have p2 : w5.cell? ⟨w.heap.size, 2, none⟩ = some (.slice none 0 0) := by rw [hP5.out.cell]; rfl
      have f0 := hP5.out.frozen 0
      have f1 := hP5.out.frozen 1
      have f2 := hP5.out.frozen 2
      have l0 : w5.cell? ⟨w2.heap.size, 0, none⟩ = some (.string X) := by rw [hPm5.out.blk.cell]; rfl
      have l1 : w5.cell? ⟨w2.heap.size, 1, none⟩ = some vn := by rw [hPm5.out.blk.cell]; rfl
      have l2 : w5.cell? ⟨w2.heap.size, 2, none⟩ = some vb := by rw [hPm5.out.blk.cell]; rfl
      have hbw5 := Lib.hid (Hb2.out.1.trans (hb15.out.mono (by omega)))
      have Hzero : Hid (ParsePost s.data.toList w (.returned (.tuple #[noLine, .int .i64 120])) (((w5.setCell ⟨w.heap.size, 0, none⟩ (.string ⟨#[]⟩)).setCell ⟨w.heap.size, 1, none⟩ (.slice none 0 0)).setCell ⟨w.heap.size, 2, none⟩ (.slice none 0 0)) ∨ Dk.lineOf s.data.toList ≠ none) := by
        by_cases hl : Dk.lineOf s.data.toList = none
        · exact .inl (parse_no hl rfl (((hbw5.out.setCell (p := ⟨w.heap.size, 0, none⟩) (Nat.le_refl _) _).setCell (p := ⟨w.heap.size, 1, none⟩) (Nat.le_refl _) _).setCell (p := ⟨w.heap.size, 2, none⟩) (Nat.le_refl _) _))
        · exact .inr hl
      have Hret := Lib.hid (fun tmps (h2 : tmps[2]?.getD undef = _) (h3 : tmps[3]?.getD undef = _) => refret_line tmps _ (((hP5.out.set_ 0 (.string ⟨#[]⟩)).set_ 1 (.slice none 0 0)).set_ 2 (.slice none 0 0)) rfl h2 (x := .int .i64 120) h3)
      rcases Hrl.out with ⟨ht1, hl1, _⟩ | ⟨ht1, hl1⟩
      · rw [ht1] at ht
        obtain ⟨rfl, _⟩ := ht
        rw [Lib.mk_data]
        have HL := Lib.hid hl1
        clear ht1 hl1 hb5
        obtain ⟨An, cn, rfl, _⟩ := reads_own hPm5.out.nums
        obtain ⟨xs5, r5, _⟩ := hPm5.out.rows
        obtain ⟨Ab, cb, rfl, _⟩ := reads_own r5
        clear r5
        go_wp2_with fail
        have hB := ((hP5.out.set_ 0 (.string X)).set_ 1 (.slice An ns.length cn)).set_ 2 (.slice Ab bs.length cb)
        refine bodyPost_ret (v := .tuple #[.agg #[.string X, .slice An ns.length cn, .slice Ab bs.length cb], .int .i64 0]) (refret_line _ _ hB rfl rfl rfl) rfl (parse_yes (T := 30) (Lb := w2.heap.size) HL.out rfl ?_ (Nat.le_of_lt Hb2.out.2) Hfine.out ?_)
        · exact (((hPm5.out.low_store (p := ⟨w.heap.size, 0, none⟩) Hb2.out.2 _).low_store (p := ⟨w.heap.size, 1, none⟩) Hb2.out.2 _).low_store (p := ⟨w.heap.size, 2, none⟩) Hb2.out.2 _)
        · exact ((hbw5.out.setCell (p := ⟨w.heap.size, 0, none⟩) (Nat.le_refl _) _).setCell (p := ⟨w.heap.size, 1, none⟩) (Nat.le_refl _) _).setCell (p := ⟨w.heap.size, 2, none⟩) (Nat.le_refl _) _
      · have HZ : Hid (ParsePost s.data.toList w (.returned (.tuple #[noLine, .int .i64 120])) (((w5.setCell ⟨w.heap.size, 0, none⟩ (.string ⟨#[]⟩)).setCell ⟨w.heap.size, 1, none⟩ (.slice none 0 0)).setCell ⟨w.heap.size, 2, none⟩ (.slice none 0 0))) := by
          rcases Hzero.out with h | h
          · exact h
          · exact absurd hl1 h
        cases ht2 : Dk.txt ⟨X.data.toList, ns, bs⟩ with
        | none =>
          rw [ht2] at ht
          obtain ⟨rfl, _⟩ := ht
          clear ht1 hl1 hb5 ht2
          go_wp2_with fail
          exact bodyPost_ret (v := .tuple #[noLine, .int .i64 120]) (Hret.out _ rfl rfl) rfl HZ.out
        | some t =>
          rw [ht2] at ht ht1
          obtain ⟨rfl, _⟩ := ht
          have hne : t ≠ s.data.toList := fun h => ht1 (by rw [h])
          obtain ⟨Z, hZ⟩ : ∃ Z : ByteArray, Z = ⟨t.toArray⟩ := ⟨_, rfl⟩
          rw [← hZ]
          have e1 : (Z.toList == s.toList) = false := by
            rw [Lib.toList_data, Lib.toList_data, hZ]; simpa using hne
          have e2 : (Z.toList != s.toList) = true := by rw [bne, e1]; rfl
          clear ht1 hl1 hb5 ht2 hne hZ
          go_wp2_with fail
          exact bodyPost_ret (v := .tuple #[noLine, .int .i64 120]) (Hret.out _ rfl rfl) rfl HZ.out
/-- The reference's Parse of any short text. -/
theorem refparse_any (s : ByteArray) (w : World) (hs : s.size ≤ 60000) : Calls Tryz.prog 9 #[.string s] w (ParsePost s.data.toList w) := by
  cases hsp : Dk.split s.data.toList with
  | nil => exact absurd hsp (Dk.split_ne _)
  | cons x0 ws0 =>
    cases hfm : Dk.formL x0 with
    | none => exact refparse_none s w hs x0 ws0 hsp hfm
    | some f => exact refparse_loop s ⟨f.toArray⟩ x0 ws0 w hs hsp (by rw [hfm])
end Go.Proofs.YtigfogpfcbcdhaaGreatDoor
