/- The walk of the desk's Parse where the first word has a form. Conditions: the text is short; the library's variables are there. -/
import Derived.Test.YtigfogpfcbcdhaaGreatDoorDeskQ
set_option linter.unusedVariables false
set_option linter.unusedSimpArgs false
namespace Go.Proofs.YtigfogpfcbcdhaaGreatDoor
open Go Go.RowKit
theorem infoI64 : (Tryz.prog.info? 2).map (fun i => (i.zero, i.size, i.bytes)) = some (some (.int .i64 0), 1, 8) := by kernel_rfl
theorem infoRow : (Tryz.prog.info? 52).map (fun i => (i.zero, i.size, i.bytes)) = some (some (.slice none 0 0), 1, 24) := by kernel_rfl
theorem fin_store {B It Lb j pos n : Nat} {w1 w4 w5 : World} {F : ByteArray} {v v' : Value} {e : TypeId} {xs : List Value} (hit : w4.heap[It]? = some (.stringIter F pos)) (hb : Below B w1 w4) (hB : B ≤ w4.heap.size) (r : w4.ownsRow B e 1 v n xs) (g : w4.grownBy w5 v.ownBlock) (hL : B ≤ Lb) (hne : It ≠ Lb) :
    (w5.setCell ⟨Lb, j, none⟩ v').heap[It]? = some (.stringIter F pos) ∧ Below B w1 (w5.setCell ⟨Lb, j, none⟩ v') := by
  have hlt : It < w4.heap.size := (Array.getElem?_eq_some_iff.1 hit).1
  refine ⟨(Below.heap_setCell _ ⟨Lb, j, none⟩ _ It hne).trans ((g.block It hlt (fun e => own_ne_iter r hit e.symm)).trans hit), ?_⟩
  exact (hb.grown g hB (fun k hk => (r.lt k hk).1)).setCell (p := ⟨Lb, j, none⟩) hL _
set_option maxHeartbeats 8000000 in
set_option maxRecDepth 100000 in
theorem parse_loop (s F : ByteArray) (x0 : List UInt8) (ws0 : List (List UInt8)) (w : World) (hs : s.size ≤ 60000) (he : Env w) (hsp : Dk.split s.data.toList = x0 :: ws0) (hfm : Dk.formL x0 = some F.data.toList) :
    Calls Tryz.prog 8 #[.string s] w (ParsePost s.data.toList w) := by
  obtain ⟨i2, hi2, hz20, hz21, hz22⟩ := info_parts infoI64
  obtain ⟨i5, hi5, hz50, hz51, hz52⟩ := info_parts infoRow
  have HE := Lib.hid he
  have Hsp := Lib.hid hsp
  have Hfm := Lib.hid hfm
  have Hasc : Hid (∀ (pos : Nat) (h : pos < F.size), F[pos].toNat < 128) := by
    intro pos h
    have := Dk.form_all (p := fun _ f => f.all fun c => decide (c.toNat < 128)) (by decide +kernel) hfm
    have := List.all_eq_true.1 this F[pos] (List.getElem_mem (l := F.data.toList) h)
    simpa using this
  have hF9 : F.size ≤ 9 := by
    have := Dk.form_all (p := fun _ f => decide (f.length ≤ 9)) (by decide +kernel) hfm
    exact of_decide_eq_true this
  clear he hsp hfm
  go_enter Tryz.func8, Tryz.ntmps8
  go_wp2_with fail
  refine (cut_more s _ (by omega) (HE.out.stays ((Below.refl _ w).alloc (Nat.le_refl _) _))).mono ?_
  rintro e w1 ⟨x, r0, m0, rfl, hc, hb⟩
  have hP : Hid (Blk w1 w.heap.size 26 #[.string ⟨#[]⟩, .slice none 0 0, .slice none 0 0]) := (Blk.new w _ _).below hb (by simp)
  have Hb : Hid (Below w.heap.size w w1 ∧ w.heap.size < w1.heap.size) := ⟨((Below.refl _ w).alloc (Nat.le_refl _) _).trans (hb.mono (by simp)), by have := hb.size; simp at this; omega⟩
  have hx : x.data.toList = x0 ∧ ((m0 = false ∧ ws0 = []) ∨ (m0 = true ∧ Dk.split r0.data.toList = ws0)) ∧ r0.size ≤ s.size := by
    obtain ⟨ws, h1, h2, _, h4, _⟩ := hc
    rw [Hsp.out] at h1
    injection h1 with h1 h5
    subst h1 h5
    exact ⟨rfl, h2, h4⟩
  have hF : Hid (formVal x.data.toList = .tuple #[.string F, .bool true]) := by
    have := formVal_some (l := x.data.toList) (by rw [hx.1]; exact Hfm.out); rw [Lib.mk_data] at this; exact this
  have hws : ws0.length ≤ s.size ∧ ∀ y ∈ ws0, y.length ≤ s.size := by
    have h1 := Dk.split_count s.data.toList
    have h2 := Dk.split_short s.data.toList
    rw [Hsp.out] at h1 h2
    have e : s.data.toList.length = s.size := rfl
    refine ⟨by simp at h1; omega, fun y hy => by have := h2 y (by simp [hy]); omega⟩
  have HQ0 : Hid (QInv F ws0 s.size 0 [] [] ws0 true m0 r0) := ⟨rfl, hx.2.1, hx.2.2, Nat.le_refl _, by simp; exact hws.1, ⟨by intro b hb; simp at hb, hws.2⟩, by intro n hn; simp at hn⟩
  have Hx := Lib.hid hx.1
  clear hb hc hx hws
  go_wp2_with fail
  refine (form_any x _).mono ?_
  rintro e w2 ⟨rfl, rfl⟩
  rw [hF.out]
  go_wp2_with fail
  have hsz0 := Hb.out.2
  go_loopw [5, 6, 8] (fun t5 t6 t8 wr => ∃ (pos : Nat) (ok more : Bool) (rest : ByteArray) (ns : List Int) (bs ws : List (List UInt8)) (vn vb : Value), t5 = .string rest ∧ t6 = .bool more ∧ t8 = .bool ok ∧ wr.heap[w1.heap.size + 1]? = some (.stringIter F pos) ∧ pos ≤ F.size ∧ Hid (QInv F ws0 s.size pos ns bs ws ok more rest ∧ PMem 26 w1.heap.size wr w1.heap.size x vn vb ns bs ∧ Below w1.heap.size w1 wr)) (fun _ _ _ wr => F.size - wr.iterPos (w1.heap.size + 1))
  case atStart =>
    refine ⟨0, true, m0, r0, [], [], ws0, .slice none 0 0, .slice none 0 0, rfl, rfl, rfl, ?_, Nat.zero_le _, HQ0.out, ⟨(Blk.new w1 _ _).alloc _, Nat.le_refl _, World.ownsRow_nil _ _ _ _, [], World.ownsRow_nil _ _ _ _, rfl, by intro j u b h; simp at h⟩, ((Below.refl _ w1).alloc (Nat.le_refl _) _).alloc (by simp) _⟩
    have := World.iter_heap (w1.alloc (.cells #[.string x, .slice none 0 0, .slice none 0 0] 26)) F 0
    simpa using this
  case round =>
    obtain ⟨pos, ok, more, rest, ns, bs, ws, vn, vb, rfl, rfl, rfl, hit, hpos, HI⟩ := hrel
    by_cases hp : pos < F.size
    · have hnx : ∀ ty, (Instr.next (.pointer (some ⟨w1.heap.size + 1, 0, none⟩)) true ty).run Tryz.prog wr = _ := fun ty => Lib.run_next_any_at wr (w1.heap.size + 1) F pos ty hit hp
      rw [decode_ascii F pos hp (Hasc.out pos hp)] at hnx
      have hip : wr.iterPos (w1.heap.size + 1) = pos := by simp [World.iterPos, hit]
      have Hip := Lib.hid hip
      have hit2 := Lib.hid (Lib.iterAt_heap wr (w1.heap.size + 1) F pos (pos + 1) hit)
      have hbw2 := Lib.hid (Lib.below_iterAt HI.out.2.2 (k := w1.heap.size + 1) (by omega) F (pos + 1))
      have hpm2 := Lib.hid (HI.out.2.1.iter hit (pos + 1))
      have hzw : w1.heap.size + 1 < (wr.iterAt (w1.heap.size + 1) F (pos + 1)).heap.size := by rw [Lib.iterAt_size]; exact (Array.getElem?_eq_some_iff.1 hit).1
      have HQ := Lib.hid HI.out.1
      obtain ⟨c, hc⟩ : ∃ c : UInt8, c = F[pos] := ⟨_, rfl⟩
      have Hc := Lib.hid hc
      rw [← hc] at hnx
      have hc8 : c.toNat < 256 := c.toNat_lt
      obtain ⟨wi, hwi⟩ : ∃ wi, wi = wr.iterAt (w1.heap.size + 1) F (pos + 1) := ⟨_, rfl⟩
      rw [← hwi] at hnx hit2 hbw2 hpm2 hzw
      have HEi : Hid (Env wi) := HE.out.stays (Hb.out.1.trans (hbw2.out.mono (by omega)))
      clear hip hit hc hwi
      cases more with
      | false =>
        have Hn := Lib.hid (HQ.out.nil_ hp)
        go_wp2_with fail
        go_loopw [5, 6, 8] (fun t5 t6 t8 wx => t5 = .string rest ∧ t6 = .bool false ∧ t8 = .bool ok ∧ wx = wi) (fun _ _ _ _ => 0)
        case atStart => exact ⟨rfl, rfl, rfl, rfl⟩
        case round =>
          obtain ⟨rfl, rfl, rfl, rfl⟩ := hrel
          go_wp2_with fail
          refine ⟨⟨pos + 1, ok, false, rest, ns, bs, ws, vn, vb, rfl, rfl, rfl, hit2.out, by omega, Hn.out, hpm2.out, hbw2.out⟩, ?_⟩
          rw [Hip.out]; simp only [World.iterPos, hit2.out]; omega
      | true =>
        have hrz := HQ.out.rz
        rcases (show c = 104 ∨ c = 42 ∨ (c ≠ 104 ∧ c ≠ 42) by by_cases h4 : c = 104 <;> by_cases h2 : c = 42 <;> simp_all) with h4 | h4 | ⟨h4, h2⟩
        · subst h4
          go_wp2_with fail
          go_loopw [5, 6, 8] (fun t5 t6 t8 wx => t5 = .string rest ∧ t6 = .bool true ∧ t8 = .bool ok ∧ wx = wi) (fun _ _ _ _ => 0)
          case atStart => exact ⟨rfl, rfl, rfl, rfl⟩
          case round =>
            obtain ⟨rfl, rfl, rfl, rfl⟩ := hrel
            go_wp2_with fail
            refine (cut_more rest _ (by omega) HEi.out).mono ?_
            rintro e w3 ⟨y, r, m, rfl, hc, hb3⟩
            obtain ⟨ws', hn⟩ := HQ.out.hex hp hc Hc.out.symm
            have hyz : y.size ≤ s.size := by obtain ⟨_, _, _, h, _⟩ := HQ.out.cut hc; exact h
            have Hn := Lib.hid hn
            have Hb3 := Lib.hid hb3
            clear hn hc hb3
            go_wp2_with fail
            refine (unhex_two y w3 (by omega)).mono ?_
            rintro e w4 ⟨u, rfl, hu, hb4⟩
            have Hpm4 := Lib.hid ((hpm2.out.stays Hb3.out).stays hb4)
            have Hu := Lib.hid (own_low hu (b' := w1.heap.size) (by have := Hb3.out.size; omega))
            have hit4 := Lib.hid ((hb4.block (w1.heap.size + 1) (by have := Hb3.out.size; omega)).trans ((Hb3.out.block (w1.heap.size + 1) hzw).trans hit2.out))
            have hbw4 := Lib.hid (hbw2.out.trans ((Hb3.out.trans (hb4.mono Hb3.out.size)).mono (show w1.heap.size ≤ wr.heap.size by omega)))
            have hBz : w1.heap.size ≤ w4.heap.size := by have := Hb3.out.size; have := hb4.size; omega
            have hbl : bs.length ≤ 10000000 := by have := HQ.out.lb; omega
            obtain ⟨xs, r1, r2, r3⟩ := Hpm4.out.rows
            have R1 := Lib.hid r1
            have R2 := Lib.hid r2
            have R3 := Lib.hid r3
            obtain ⟨A, cu, rfl, _⟩ := reads_own Hu.out
            have c4 : w4.cell? ⟨w1.heap.size, 2, none⟩ = some vb := by rw [Hpm4.out.blk.cell]; rfl
            obtain ⟨b, hb⟩ : ∃ b, b = Dk.ubD y.data.toList := ⟨_, rfl⟩
            obtain ⟨g, hg⟩ : ∃ g, g = Dk.gbD y.data.toList := ⟨_, rfl⟩
            rw [← hb] at Hn Hu
            rw [← hg] at Hn
            rw [← hb, ← hg]
            clear hu hb4 r1 r2 r3 hb hg
            cases ok
            all_goals
              go_wp2_with (refine wpList_pushE rfl (.tmp 63) (.tmp 65) 24 52 rfl w1.heap.size i5 _ 24 Tryz.underlying24 hi5 hz50 hz51 hz52 rfl vb bs.length xs rfl R1.out _ rfl 1 rfl hbl (by decide) hBz ?_; intro v5 w5 o5 g5 k5; obtain ⟨gg, cc, rfl⟩ := own_succ o5; have hL := Lib.hid (Hpm4.out.blk.grown g5 (fun e => own_blk_ne R1.out Hpm4.out.blk (by decide) e.symm)); have c5 : w5.cell? ⟨w1.heap.size, 2, none⟩ = some vb := (by rw [hL.out.cell]; rfl); have f5 := hL.out.frozen 2; have O5 := Lib.hid o5; have G5 := Lib.hid g5; clear o5 g5 k5)
              have hf := fin_store (j := 2) (v' := .slice (some ⟨gg, 0, none⟩) (bs.length + 1) cc) hit4.out hbw4.out hBz R1.out G5.out (Nat.le_refl _) (by omega)
              refine ⟨⟨pos + 1, _, m, r, ns, bs ++ [b], ws', vn, _, rfl, rfl, rfl, hf.1, by omega, Hn.out, Hpm4.out.row (by decide) Hu.out R1.out R2.out R3.out O5.out G5.out, hf.2⟩, ?_⟩
              rw [Hip.out]; simp only [World.iterPos, hf.1]; omega
        · subst h4
          have HS0 := Lib.hid (StarInv.start HQ.out)
          have Hfin : Hid (∀ (j : Nat) (bs' : List (List UInt8)) (ok' : Bool) (r : ByteArray), StarInv s.size bs ws ok j bs' ok' false r → QInv F ws0 s.size (pos + 1) ns bs' [] ok' false r) := fun j bs' ok' r k => StarInv.fin HQ.out hp Hc.out.symm k
          have hwl : bs.length + ws.length ≤ s.size := HQ.out.lb
          go_wp2_with fail
          go_loopw [5, 6, 8] (fun t5 t6 t8 wx => ∃ (j : Nat) (bs2 : List (List UInt8)) (ok2 m : Bool) (r : ByteArray) (vb2 : Value), t5 = .string r ∧ t6 = .bool m ∧ t8 = .bool ok2 ∧ wx.heap[w1.heap.size + 1]? = some (.stringIter F (pos + 1)) ∧ w1.heap.size + 1 < wx.heap.size ∧ Hid (StarInv s.size bs ws ok j bs2 ok2 m r ∧ PMem 26 w1.heap.size wx w1.heap.size x vn vb2 ns bs2 ∧ Below w1.heap.size w1 wx)) (fun t5 t6 _ _ => match t5, t6 with | .string r, .bool true => r.size + 1 | _, _ => 0)
          case atStart => exact ⟨0, bs, ok, true, rest, vb, rfl, rfl, rfl, hit2.out, hzw, HS0.out, hpm2.out, hbw2.out⟩
          case round =>
            obtain ⟨j, bs2, ok2, m2, r2, vb2, rfl, rfl, rfl, hix, hzx, HJ⟩ := hrel
            cases m2 with
            | false =>
              have Hf := Lib.hid (Hfin.out j bs2 ok2 r2 HJ.out.1)
              go_wp2_with fail
              refine ⟨⟨pos + 1, ok2, false, r2, ns, bs2, [], vn, vb2, rfl, rfl, rfl, hix, by omega, Hf.out, HJ.out.2.1, HJ.out.2.2⟩, ?_⟩
              rw [Hip.out]; simp only [World.iterPos, hix]; omega
            | true =>
              have hrz2 := HJ.out.1.rz
              have HEx : Hid (Env wr) := HE.out.stays (Hb.out.1.trans (HJ.out.2.2.mono (by omega)))
              go_wp2_with fail
              refine (cut_more r2 _ (by omega) HEx.out).mono ?_
              rintro e w3 ⟨y, r, m, rfl, hc, hb3⟩
              obtain ⟨hjl, hyz, hn⟩ := HJ.out.1.next hc
              have Hlt : Hid (m = true → r.size < r2.size) := hc.choose_spec.2.2.2.2
              have Hn := Lib.hid hn
              have Hb3 := Lib.hid hb3
              clear hn hc hb3
              go_wp2_with fail
              refine (unhex_two y w3 (by omega)).mono ?_
              rintro e w4 ⟨u, rfl, hu, hb4⟩
              have Hpm4 := Lib.hid ((HJ.out.2.1.stays Hb3.out).stays hb4)
              have Hu := Lib.hid (own_low hu (b' := w1.heap.size) (by have := Hb3.out.size; omega))
              have hit4 := Lib.hid ((hb4.block (w1.heap.size + 1) (by have := Hb3.out.size; omega)).trans ((Hb3.out.block (w1.heap.size + 1) hzx).trans hix))
              have hbw4 := Lib.hid (HJ.out.2.2.trans ((Hb3.out.trans (hb4.mono Hb3.out.size)).mono (show w1.heap.size ≤ wr.heap.size by omega)))
              have hBz : w1.heap.size ≤ w4.heap.size := by have := Hb3.out.size; have := hb4.size; omega
              have hz4 : w1.heap.size + 1 < w4.heap.size := by have := Hb3.out.size; have := hb4.size; omega
              have hbl : bs2.length ≤ 10000000 := by have h := congrArg List.length HJ.out.1.bs_; simp at h; omega
              obtain ⟨xs, r1, r2', r3⟩ := Hpm4.out.rows
              have R1 := Lib.hid r1
              have R2 := Lib.hid r2'
              have R3 := Lib.hid r3
              obtain ⟨A, cu, rfl, _⟩ := reads_own Hu.out
              have c4 : w4.cell? ⟨w1.heap.size, 2, none⟩ = some vb2 := by rw [Hpm4.out.blk.cell]; rfl
              obtain ⟨b, hb⟩ : ∃ b, b = Dk.ubD y.data.toList := ⟨_, rfl⟩
              obtain ⟨g, hg⟩ : ∃ g, g = Dk.gbD y.data.toList := ⟨_, rfl⟩
              rw [← hb] at Hn Hu
              rw [← hg] at Hn
              rw [← hb, ← hg]
              clear hu hb4 r1 r2' r3 hb hg
              cases ok2
              all_goals
                go_wp2_with (refine wpList_pushE rfl (.tmp 63) (.tmp 65) 24 52 rfl w1.heap.size i5 _ 24 Tryz.underlying24 hi5 hz50 hz51 hz52 rfl vb2 bs2.length xs rfl R1.out _ rfl 1 rfl hbl (by decide) hBz ?_; intro v5 w5 o5 g5 k5; obtain ⟨gg, cc, rfl⟩ := own_succ o5; have hL := Lib.hid (Hpm4.out.blk.grown g5 (fun e => own_blk_ne R1.out Hpm4.out.blk (by decide) e.symm)); have c5 : w5.cell? ⟨w1.heap.size, 2, none⟩ = some vb2 := (by rw [hL.out.cell]; rfl); have f5 := hL.out.frozen 2; have O5 := Lib.hid o5; have G5 := Lib.hid g5; clear o5 g5 k5)
                have hf := fin_store (j := 2) (v' := .slice (some ⟨gg, 0, none⟩) (bs2.length + 1) cc) hit4.out hbw4.out hBz R1.out G5.out (Nat.le_refl _) (by omega)
                refine ⟨⟨j + 1, bs2 ++ [b], _, m, r, _, rfl, rfl, rfl, hf.1, by have := G5.out.size; simp; omega, Hn.out, Hpm4.out.row (by decide) Hu.out R1.out R2.out R3.out O5.out G5.out, hf.2⟩, ?_⟩
                cases m with
                | false => simp
                | true => have := Hlt.out rfl; simp; omega
        · have h4' : ((c.toNat : Int) == 104) = false := by
            rw [beq_eq_false_iff_ne]; intro e; apply h4; apply UInt8.toNat_inj.1; simpa using (show c.toNat = 104 by omega)
          have h2' : ((c.toNat : Int) == 42) = false := by
            rw [beq_eq_false_iff_ne]; intro e; apply h2; apply UInt8.toNat_inj.1; simpa using (show c.toNat = 42 by omega)
          have h2'' : ((c.toNat : Int) != 42) = true := by simp at h2' ⊢; omega
          have Hnum : Hid (∀ (y r : ByteArray) (m : Bool), CutIs rest y r m → ∃ ws', QInv F ws0 s.size (pos + 1) (ns ++ [Dk.nbD y.data.toList]) bs ws' (ok && Dk.gnD y.data.toList) m r) := fun y r m hc => HQ.out.num hp hc (by rw [← Hc.out]; exact h4) (by rw [← Hc.out]; exact h2)
          have hnl := HQ.out.ln
          clear h4 h2
          go_wp2_with fail
          go_loopw [5, 6, 8] (fun t5 t6 t8 wx => t5 = .string rest ∧ t6 = .bool true ∧ t8 = .bool ok ∧ wx = wi) (fun _ _ _ _ => 0)
          case atStart => exact ⟨rfl, rfl, rfl, rfl⟩
          case round =>
            obtain ⟨rfl, rfl, rfl, rfl⟩ := hrel
            go_wp2_with fail
            refine (cut_more rest _ (by omega) HEi.out).mono ?_
            rintro e w3 ⟨y, r, m, rfl, hc, hb3⟩
            obtain ⟨ws', hn⟩ := Hnum.out y r m hc
            have hyz : y.size ≤ s.size := by obtain ⟨_, _, _, h, _⟩ := HQ.out.cut hc; exact h
            have Hn := Lib.hid hn
            have Hb3 := Lib.hid hb3
            clear hn hc hb3
            go_wp2_with fail
            refine (parseInt_any y w3 (by omega) (HEi.out.stays Hb3.out)).mono ?_
            rintro e w4 ⟨ev, rfl, hev, hb4⟩
            have Hpm4 := Lib.hid ((hpm2.out.stays Hb3.out).stays hb4)
            have hit4 := Lib.hid ((hb4.block (w1.heap.size + 1) (by have := Hb3.out.size; omega)).trans ((Hb3.out.block (w1.heap.size + 1) hzw).trans hit2.out))
            have hbw4 := Lib.hid (hbw2.out.trans ((Hb3.out.trans (hb4.mono Hb3.out.size)).mono (show w1.heap.size ≤ wr.heap.size by omega)))
            have hBz : w1.heap.size ≤ w4.heap.size := by have := Hb3.out.size; have := hb4.size; omega
            have hnl2 : ns.length ≤ 10000000 := by omega
            have R1 := Lib.hid Hpm4.out.nums
            have c4 : w4.cell? ⟨w1.heap.size, 1, none⟩ = some vn := by rw [Hpm4.out.blk.cell]; rfl
            obtain ⟨k, hk⟩ : ∃ k, k = Dk.nbD y.data.toList := ⟨_, rfl⟩
            obtain ⟨g, hg⟩ : ∃ g, g = Dk.gnD y.data.toList := ⟨_, rfl⟩
            rw [← hk, ← hg] at Hn
            rw [← hk]
            rw [← hg] at hev
            clear hb4 hk hg
            rcases hev with ⟨rfl, rfl⟩ | ⟨rfl, te, pe, rfl⟩
            all_goals
              cases ok
              all_goals
                go_wp2_with (refine wpList_pushE rfl (.tmp 79) (.tmp 81) 23 2 rfl w1.heap.size i2 _ 8 Tryz.underlying23 hi2 hz20 hz21 hz22 rfl vn ns.length (ns.map (Value.int .i64)) rfl R1.out _ rfl 1 rfl hnl2 (by decide) hBz ?_; intro v5 w5 o5 g5 k5; obtain ⟨gg, cc, rfl⟩ := own_succ o5; have hL := Lib.hid (Hpm4.out.blk.grown g5 (fun e => own_blk_ne R1.out Hpm4.out.blk (by decide) e.symm)); have c5 : w5.cell? ⟨w1.heap.size, 1, none⟩ = some vn := (by rw [hL.out.cell]; rfl); have f5 := hL.out.frozen 1; have O5 := Lib.hid o5; have G5 := Lib.hid g5; clear o5 g5 k5)
                have hf := fin_store (j := 1) (v' := .slice (some ⟨gg, 0, none⟩) (ns.length + 1) cc) hit4.out hbw4.out hBz R1.out G5.out (Nat.le_refl _) (by omega)
                refine ⟨⟨pos + 1, _, m, r, ns ++ [k], bs, ws', _, vb, rfl, rfl, rfl, hf.1, by omega, Hn.out, Hpm4.out.num (by decide) O5.out G5.out, hf.2⟩, ?_⟩
                rw [Hip.out]; simp only [World.iterPos, hf.1]; omega
    · obtain rfl : pos = F.size := by omega
      have hnx : ∀ ty, (Instr.next (.pointer (some ⟨w1.heap.size + 1, 0, none⟩)) true ty).run Tryz.prog wr = _ := fun ty => Lib.run_next_end_at wr (w1.heap.size + 1) F F.size ty hit hp
      have hread : Dk.readL Dk.ubD Dk.nbD Dk.gbD Dk.gnD F.data.toList ws0 = (ns, bs, ws, ok) := by
        have e : F.data.toList.take F.size = F.data.toList := List.take_of_length_le (by show F.data.toList.length ≤ F.size; exact Nat.le_refl _)
        have h := HI.out.1.st
        rw [e] at h
        exact h
      have hrl := Dk.reader_line Dk.readerD Dk.num64D Hsp.out Hfm.out
      rw [hread] at hrl
      simp only at hrl
      have hfine : Fine ⟨x.data.toList, ns, bs⟩ := ⟨HI.out.1.i64, by have := HI.out.1.ln; show ns.length ≤ _; omega, by have := HI.out.1.lb; show bs.length ≤ _; omega, fun b hb => by have := HI.out.1.short.1 b hb; omega⟩
      have Hfine := Lib.hid hfine
      have hxl : x.data.toList.length ≤ 100000 := by
        have h2 := Dk.split_short s.data.toList x0 (by rw [Hsp.out]; simp)
        have e : s.data.toList.length = s.size := rfl
        rw [Hx.out]; omega
      have hxl2 := Lib.hid hxl
      have q0 : wr.cell? ⟨w1.heap.size, 0, none⟩ = some (.string x) := by rw [HI.out.2.1.blk.cell]; rfl
      have q1 : wr.cell? ⟨w1.heap.size, 1, none⟩ = some vn := by rw [HI.out.2.1.blk.cell]; rfl
      have q2 : wr.cell? ⟨w1.heap.size, 2, none⟩ = some vb := by rw [HI.out.2.1.blk.cell]; rfl
      have HEr : Hid (Env wr) := HE.out.stays (Hb.out.1.trans (HI.out.2.2.mono (by omega)))
      rw [← Hx.out] at hrl
      have Hrl := Lib.hid hrl
      have hmore := HI.out.1.more
      have Hmore := Lib.hid hmore
      clear hread hrl hfine hxl hmore
      go_wp2_with fail
      refine (text_any _ ⟨x.data.toList, ns, bs⟩ wr HI.out.2.1.line Hfine.out hxl2.out HEr.out).mono ?_
      intro e w5 ht
      unfold TextPost at ht
      have hb5 : Below wr.heap.size wr w5 := by
        split at ht
        · exact ht.2
        · exact ht.2
      have hPm5 := Lib.hid (HI.out.2.1.stays hb5)
      have hb15 := Lib.hid (HI.out.2.2.trans (hb5.mono HI.out.2.2.size))
      have hP5 := Lib.hid (hP.out.below hb15.out Hb.out.2)
      have p0 : w5.cell? ⟨w.heap.size, 0, none⟩ = some (.string ⟨#[]⟩) := by rw [hP5.out.cell]; rfl
      have p1 : w5.cell? ⟨w.heap.size, 1, none⟩ = some (.slice none 0 0) := by rw [hP5.out.cell]; rfl
      have p2 : w5.cell? ⟨w.heap.size, 2, none⟩ = some (.slice none 0 0) := by rw [hP5.out.cell]; rfl
      have f0 := hP5.out.frozen 0
      have f1 := hP5.out.frozen 1
      have f2 := hP5.out.frozen 2
      have l0 : w5.cell? ⟨w1.heap.size, 0, none⟩ = some (.string x) := by rw [hPm5.out.blk.cell]; rfl
      have l1 : w5.cell? ⟨w1.heap.size, 1, none⟩ = some vn := by rw [hPm5.out.blk.cell]; rfl
      have l2 : w5.cell? ⟨w1.heap.size, 2, none⟩ = some vb := by rw [hPm5.out.blk.cell]; rfl
      have hbw5 := Lib.hid (Hb.out.1.trans (hb15.out.mono (by omega)))
      have Hzero : Hid (ParsePost s.data.toList w (.returned (.tuple #[noLine, .int .i64 120])) (((w5.setCell ⟨w.heap.size, 0, none⟩ (.string ⟨#[]⟩)).setCell ⟨w.heap.size, 1, none⟩ (.slice none 0 0)).setCell ⟨w.heap.size, 2, none⟩ (.slice none 0 0)) ∨ Dk.lineOf s.data.toList ≠ none) := by
        by_cases hl : Dk.lineOf s.data.toList = none
        · exact .inl (parse_no hl rfl (((hbw5.out.setCell (p := ⟨w.heap.size, 0, none⟩) (Nat.le_refl _) _).setCell (p := ⟨w.heap.size, 1, none⟩) (Nat.le_refl _) _).setCell (p := ⟨w.heap.size, 2, none⟩) (Nat.le_refl _) _))
        · exact .inr hl
      have Hret := Lib.hid (fun tmps (h2 : tmps[2]?.getD undef = _) (h3 : tmps[3]?.getD undef = _) => ret_line tmps _ (((hP5.out.set_ 0 (.string ⟨#[]⟩)).set_ 1 (.slice none 0 0)).set_ 2 (.slice none 0 0)) rfl h2 (x := .int .i64 120) h3)
      rcases Hrl.out with ⟨ht1, hl1, hwo⟩ | ⟨ht1, hl1⟩
      · injection hwo with hwo1 hwo2
        subst hwo1 hwo2
        have hmf : more = false := by
          rcases Hmore.out with ⟨h, _⟩ | ⟨_, h⟩
          · exact h
          · exact absurd h (Dk.split_ne _)
        subst hmf
        rw [ht1] at ht
        obtain ⟨rfl, _⟩ := ht
        rw [Lib.mk_data]
        have HL := Lib.hid hl1
        clear ht1 hl1 hb5
        obtain ⟨An, cn, rfl, _⟩ := reads_own hPm5.out.nums
        obtain ⟨xs5, r5, _⟩ := hPm5.out.rows
        obtain ⟨Ab, cb, rfl, _⟩ := reads_own r5
        clear r5
        go_wp2_with fail
        have hB := ((hP5.out.set_ 0 (.string x)).set_ 1 (.slice An ns.length cn)).set_ 2 (.slice Ab bs.length cb)
        refine bodyPost_ret (v := .tuple #[.agg #[.string x, .slice An ns.length cn, .slice Ab bs.length cb], .int .i64 0]) (ret_line _ _ hB rfl rfl rfl) rfl (parse_yes (T := 26) (Lb := w1.heap.size) HL.out rfl ?_ (Nat.le_of_lt Hb.out.2) Hfine.out ?_)
        · exact (((hPm5.out.low_store (p := ⟨w.heap.size, 0, none⟩) Hb.out.2 _).low_store (p := ⟨w.heap.size, 1, none⟩) Hb.out.2 _).low_store (p := ⟨w.heap.size, 2, none⟩) Hb.out.2 _)
        · exact ((hbw5.out.setCell (p := ⟨w.heap.size, 0, none⟩) (Nat.le_refl _) _).setCell (p := ⟨w.heap.size, 1, none⟩) (Nat.le_refl _) _).setCell (p := ⟨w.heap.size, 2, none⟩) (Nat.le_refl _) _
      · have HZ : Hid (ParsePost s.data.toList w (.returned (.tuple #[noLine, .int .i64 120])) (((w5.setCell ⟨w.heap.size, 0, none⟩ (.string ⟨#[]⟩)).setCell ⟨w.heap.size, 1, none⟩ (.slice none 0 0)).setCell ⟨w.heap.size, 2, none⟩ (.slice none 0 0))) := by
          rcases Hzero.out with h | h
          · exact h
          · exact absurd hl1 h
        cases ht2 : Dk.txt ⟨x.data.toList, ns, bs⟩ with
        | none =>
          rw [ht2] at ht
          obtain ⟨rfl, _⟩ := ht
          clear ht1 hl1 hb5 ht2
          cases ok <;> cases more
          all_goals
            go_wp2_with fail
            exact bodyPost_ret (v := .tuple #[noLine, .int .i64 120]) (Hret.out _ rfl rfl) rfl HZ.out
        | some t =>
          rw [ht2] at ht ht1
          obtain ⟨rfl, _⟩ := ht
          have hne : t ≠ s.data.toList := fun h => ht1 (by rw [h])
          obtain ⟨X, hX⟩ : ∃ X : ByteArray, X = ⟨t.toArray⟩ := ⟨_, rfl⟩
          rw [← hX]
          have e1 : (X.toList == s.toList) = false := by
            rw [Lib.toList_data, Lib.toList_data, hX]; simpa using hne
          have e2 : (X.toList != s.toList) = true := by rw [bne, e1]; rfl
          clear ht1 hl1 hb5 ht2 hne hX
          cases ok <;> cases more
          all_goals
            go_wp2_with fail
            exact bodyPost_ret (v := .tuple #[noLine, .int .i64 120]) (Hret.out _ rfl rfl) rfl HZ.out
/-- Parse of any short text. -/
theorem parse_any (s : ByteArray) (w : World) (hs : s.size ≤ 60000) (he : Env w) : Calls Tryz.prog 8 #[.string s] w (ParsePost s.data.toList w) := by
  cases hsp : Dk.split s.data.toList with
  | nil => exact absurd hsp (Dk.split_ne _)
  | cons x0 ws0 =>
    cases hfm : Dk.formL x0 with
    | none => exact parse_none s w hs he (fun x ws h => by rw [hsp] at h; injection h with h _; rw [← h]; exact hfm)
    | some f => exact parse_loop s ⟨f.toArray⟩ x0 ws0 w hs he hsp (by rw [hfm])
end Go.Proofs.YtigfogpfcbcdhaaGreatDoor
