/- The walk of the desk's Text: a line's text, or none. Conditions: the line lies in memory, its numbers are some, no part of it is long. -/
import Derived.Test.YtigfogpfcbcdhaaGreatDoorDeskV
import Derived.Test.YtigfogpfcbcdhaaGreatDoorDeskE
import Derived.Deep.QuietTactic
import Derived.BigQuiet
set_option linter.unusedVariables false
set_option linter.unusedSimpArgs false
namespace Go.Proofs.YtigfogpfcbcdhaaGreatDoor
open Go Go.RowKit
/-- What Text answers. -/
def TextPost (l : Dk.Ln) (w : World) (e : Ending) (w' : World) : Prop :=
  match Dk.txt l with
  | some t => e = .returned (.tuple #[.string ⟨t.toArray⟩, .int .i64 0]) ∧ Below w.heap.size w w'
  | none => e = .returned (.tuple #[.string ⟨#[]⟩, .int .i64 120]) ∧ Below w.heap.size w w'
theorem text_no {l : Dk.Ln} {w w' : World} {e : Ending} (h : Dk.txt l = none) (he : e = .returned (.tuple #[.string ⟨#[]⟩, .int .i64 120])) (hb : Below w.heap.size w w') : TextPost l w e w' := by
  unfold TextPost; rw [h]; exact ⟨he, hb⟩
theorem text_yes {l : Dk.Ln} {t : ByteArray} {w w' : World} {e : Ending} (h : Dk.txt l = some t.data.toList) (he : e = .returned (.tuple #[.string t, .int .i64 0])) (hb : Below w.heap.size w w') : TextPost l w e w' := by
  unfold TextPost; rw [h]; exact ⟨by rw [he, Lib.mk_data], hb⟩
theorem cat32 (o X : ByteArray) : (o ++ ((⟨#[32]⟩ : ByteArray) ++ X)).data.toList = o.data.toList ++ 32 :: X.data.toList := by simp [ByteArray.data_append]
theorem cat32_size (o X : ByteArray) : (o ++ ((⟨#[32]⟩ : ByteArray) ++ X)).size = o.size + 1 + X.size := by
  show (o ++ ((⟨#[32]⟩ : ByteArray) ++ X)).data.toList.length = o.data.toList.length + 1 + X.data.toList.length
  rw [cat32]; simp; omega
namespace Dk
theorem step_nil {c : UInt8} (h4 : c ≠ 104) (h2 : c ≠ 42) (out : Bs) {ns : List Int} (bs : List Bs) (h : ns.length = 0) : step (some (out, ns, bs)) c = none := by
  obtain rfl : ns = [] := List.eq_nil_of_length_eq_zero h
  unfold step; simp only; rw [if_neg h4, if_neg h2]
theorem head_drop {ns : List Int} (h : 0 < ns.length) : ns = ns[0] :: ns.drop 1 := by
  cases ns with
  | nil => simp at h
  | cons a t => rfl
theorem step_no {c : UInt8} (h4 : c ≠ 104) (h2 : c ≠ 42) (out : Bs) {ns : List Int} (bs : List Bs) (h : 0 < ns.length) (hk : okNum c ns[0] = false) : step (some (out, ns, bs)) c = none := by
  obtain ⟨n, t, rfl⟩ : ∃ n t, ns = n :: t := ⟨_, _, head_drop h⟩
  unfold step; simp only; rw [if_neg h4, if_neg h2]
  simp only [List.getElem_cons_zero] at hk
  rw [hk]; rfl
theorem step_yes {c : UInt8} (h4 : c ≠ 104) (h2 : c ≠ 42) (out : Bs) {ns : List Int} (bs : List Bs) (h : 0 < ns.length) (hk : okNum c ns[0] = true) : step (some (out, ns, bs)) c = some (out ++ 32 :: Lib.itoa ns[0], ns.drop 1, bs) := by
  obtain ⟨n, t, rfl⟩ : ∃ n t, ns = n :: t := ⟨_, _, head_drop h⟩
  unfold step; simp only; rw [if_neg h4, if_neg h2]
  simp only [List.getElem_cons_zero] at hk
  rw [hk]; rfl
theorem join_snoc (bs : List Bs) (j : Nat) (h : j < bs.length) : join ((bs.take (j + 1)).map hexT) = join ((bs.take j).map hexT) ++ 32 :: hexT bs[j] := by
  rw [List.take_succ_eq_append_getElem h, List.map_append]; unfold join; rw [List.flatMap_append]; simp
end Dk
theorem rows_next {w : World} {Av : Nat → Prop} {g og n cc j : Nat} {bs : List (List UInt8)} (h : Is w Av (.slice (some ⟨g, og, none⟩) n cc) (rowsD (bs.drop j))) (hn : 0 < n) :
    (cc = 1 → Is w Av (.slice (some ⟨g, og, none⟩) (n - 1) (cc - 1)) (rowsD (bs.drop (j + 1)))) ∧ (1 < cc → Is w Av (.slice (some ⟨g, og + 1, none⟩) (n - 1) (cc - 1)) (rowsD (bs.drop (j + 1)))) := by
  have h1 := h.rowsDrop 1 (by omega)
  rw [List.drop_drop] at h1
  refine ⟨fun hc => ?_, fun hc => ?_⟩
  · rwa [if_pos hc] at h1
  · rw [if_neg (by omega)] at h1
    simpa [Addr.add] using h1
/-- After so many letters of the form. -/
structure TInv (l : Dk.Ln) (F : ByteArray) (w : World) (pos : Nat) (ok : Bool) (out : ByteArray) (vn vb : Value) (ns : List Int) (bs : List (List UInt8)) : Prop where
  st : (F.data.toList.take pos).foldl Dk.step (some (l.word, l.nums, l.bytes)) = if ok then some (out.data.toList, ns, bs) else none
  hn : Is w NoAv vn (numsD ns)
  hb : Is w NoAv vb (rowsD bs)
  i64 : Dk.In64 ns
  short : ∀ b ∈ bs, b.length ≤ 65536
  ln : ns.length ≤ 100000
  lb : bs.length ≤ 100000
  size : out.size ≤ 1000000 + 3000000 * pos
theorem TInv.step {l : Dk.Ln} {F : ByteArray} {w : World} {pos : Nat} {ok : Bool} {out : ByteArray} {vn vb : Value} {ns : List Int} {bs : List (List UInt8)} (h : TInv l F w pos ok out vn vb ns bs) (hp : pos < F.size) :
    (F.data.toList.take (pos + 1)).foldl Dk.step (some (l.word, l.nums, l.bytes)) = Dk.step (if ok then some (out.data.toList, ns, bs) else none) F[pos] := by
  have e : F.data.toList.take (pos + 1) = F.data.toList.take pos ++ [F[pos]] := List.take_succ_eq_append_getElem (l := F.data.toList) hp
  rw [e, List.foldl_append, h.st]; rfl
theorem TInv.no {l : Dk.Ln} {F : ByteArray} {w : World} {pos : Nat} {ok : Bool} {out out' : ByteArray} {vn vb : Value} {ns : List Int} {bs : List (List UInt8)} (h : TInv l F w pos ok out vn vb ns bs) (hp : pos < F.size)
    (hs : Dk.step (if ok then some (out.data.toList, ns, bs) else none) F[pos] = none) (hz : out'.size ≤ 1000000 + 3000000 * (pos + 1)) : TInv l F w (pos + 1) false out' vn vb ns bs :=
  ⟨by rw [h.step hp, hs]; rfl, h.hn, h.hb, h.i64, h.short, h.ln, h.lb, hz⟩
theorem TInv.yes {l : Dk.Ln} {F : ByteArray} {w : World} {pos : Nat} {ok : Bool} {out out' : ByteArray} {vn vb vn' vb' : Value} {ns ns' : List Int} {bs bs' : List (List UInt8)} (h : TInv l F w pos ok out vn vb ns bs) (hp : pos < F.size)
    (hs : Dk.step (if ok then some (out.data.toList, ns, bs) else none) F[pos] = some (out'.data.toList, ns', bs')) (hn : Is w NoAv vn' (numsD ns')) (hb : Is w NoAv vb' (rowsD bs')) (sn : ∀ n ∈ ns', n ∈ ns) (sb : ∀ b ∈ bs', b ∈ bs)
    (ln : ns'.length ≤ ns.length) (lb : bs'.length ≤ bs.length) (hz : out'.size ≤ 1000000 + 3000000 * (pos + 1)) : TInv l F w (pos + 1) true out' vn' vb' ns' bs' :=
  ⟨by rw [h.step hp, hs]; rfl, hn, hb, fun n hm => h.i64 n (sn n hm), fun b hm => h.short b (sb b hm), Nat.le_trans ln h.ln, Nat.le_trans lb h.lb, hz⟩
theorem TInv.end_ {l : Dk.Ln} {F : ByteArray} {w : World} {ok : Bool} {out : ByteArray} {vn vb : Value} {ns : List Int} {bs : List (List UInt8)} (h : TInv l F w F.size ok out vn vb ns bs) (hf : Dk.formL l.word = some F.data.toList) :
    Dk.txt l = if ok = true ∧ ns = [] ∧ bs = [] then some out.data.toList else none := by
  have e : F.data.toList.take F.size = F.data.toList := List.take_of_length_le (by show F.data.toList.length ≤ F.size; exact Nat.le_refl _)
  have hst := h.st
  rw [e] at hst
  unfold Dk.txt
  rw [hf]
  simp only [hst]
  cases ok
  · simp [Dk.fin]
  · cases ns <;> cases bs <;> simp [Dk.fin]
set_option maxHeartbeats 4000000 in
set_option maxRecDepth 100000 in
theorem text_loop (v : Value) (l : Dk.Ln) (F : ByteArray) (w : World) (hl : LineAt w NoAv v l) (hf : Fine l) (hw : l.word.length ≤ 100000) (he : Env w) (hfm : Dk.formL l.word = some F.data.toList) :
    Calls Tryz.prog 13 #[v] w (TextPost l w) := by
  obtain ⟨vn, vb, rfl, hn, hb⟩ := hl
  have HF : Hid (formVal (⟨l.word.toArray⟩ : ByteArray).data.toList = .tuple #[.string F, .bool true]) := by
    have := formVal_some hfm; rw [Lib.mk_data] at this; exact this
  have Hasc : Hid (∀ (pos : Nat) (h : pos < F.size), F[pos].toNat < 128) := by
    intro pos h
    have := Dk.form_all (p := fun _ f => f.all fun c => decide (c.toNat < 128)) (by decide +kernel) hfm
    have := List.all_eq_true.1 this F[pos] (List.getElem_mem (l := F.data.toList) h)
    simpa using this
  obtain ⟨s, hs⟩ : ∃ s : ByteArray, s = ⟨l.word.toArray⟩ := ⟨_, rfl⟩
  rw [← hs] at HF ⊢
  have HFm := Lib.hid hfm
  have HT0 : Hid (TInv l F w 0 true s vn vb l.nums l.bytes) := ⟨by rw [hs]; rfl, hn, hb, hf.nums, hf.lb, hf.nn, hf.nb, by rw [hs]; show l.word.length ≤ _; omega⟩
  have HE := Lib.hid he
  have hF9 : F.size ≤ 9 := by
    have := Dk.form_all (p := fun _ f => decide (f.length ≤ 9)) (by decide +kernel) hfm
    exact of_decide_eq_true this
  clear hn hb he hs hf hfm hw
  go_enter Tryz.func13, Tryz.ntmps13
  go_wp2_with fail
  refine (form_any s _).mono ?_
  rintro e w1 ⟨rfl, rfl⟩
  rw [HF.out]
  obtain ⟨W, hW⟩ : ∃ W, W = w.alloc (.cells #[.string s, vn, vb] 26) := ⟨_, rfl⟩
  have hc0 : W.cell? ⟨w.heap.size, 0, none⟩ = some (.string s) := by rw [hW, World.cell?_alloc_new]; rfl
  have hc1 : W.cell? ⟨w.heap.size, 1, none⟩ = some vn := by rw [hW, World.cell?_alloc_new]; rfl
  have hc2 : W.cell? ⟨w.heap.size, 2, none⟩ = some vb := by rw [hW, World.cell?_alloc_new]; rfl
  have HB : Hid (Below w.heap.size w W ∧ w.heap.size < W.heap.size) := by
    show _ ∧ _; rw [hW]; exact ⟨(Below.refl _ w).alloc (Nat.le_refl _) _, by simp⟩
  rw [← hW]
  clear hW
  go_wp2_with fail
  go_quiet (fail)
  go_wp2_with fail
  clear hc0 hc1 hc2
  have HZ : Hid (∃ W2, W2 = W.drewN nq ∧ Below w.heap.size w W2 ∧ W2.heap.size = W.heap.size) := ⟨_, rfl, below_drewN HB.out.1 nq, rfl⟩
  obtain ⟨W2, hW2, hB2, hz2⟩ := HZ.out
  rw [← hW2]
  rw [show W.heap.size = W2.heap.size from hz2.symm] at *
  clear HZ hW2 hz2 HB
  have HB2 := Lib.hid hB2
  clear hB2
  go_loopw [5, 6, 7, 8] (fun t5 t6 t7 t8 wr => ∃ (pos : Nat) (ok : Bool) (out : ByteArray) (ns : List Int) (bs : List (List UInt8)), t5 = .bool ok ∧ t6 = .string out ∧ wr.heap[W2.heap.size]? = some (.stringIter F pos) ∧ pos ≤ F.size ∧ Hid (TInv l F w pos ok out t7 t8 ns bs ∧ Below w.heap.size w wr)) (fun _ _ _ _ wr => F.size - wr.iterPos W2.heap.size)
  case atStart => exact ⟨0, true, s, l.nums, l.bytes, rfl, rfl, World.iter_heap W2 F 0, Nat.zero_le _, HT0.out, HB2.out.alloc (by have := HB2.out.size; omega) _⟩
  case round =>
    obtain ⟨pos, ok, out, ns, bs, rfl, rfl, hit, hpos, HI⟩ := hrel
    have hW2 := HB2.out.size
    obtain ⟨An, cn, rfl, hcn, hnums⟩ := HI.out.1.hn.nums
    obtain ⟨Ab, cb, rfl, hcb, hrows⟩ := HI.out.1.hb.rows
    have Hnums := Lib.hid hnums
    have Hrows := Lib.hid hrows
    have hln := HI.out.1.ln
    have hlb := HI.out.1.lb
    have hsz := HI.out.1.size
    clear hnums hrows
    by_cases hp : pos < F.size
    · have hnx : ∀ ty, (Instr.next (.pointer (some ⟨W2.heap.size, 0, none⟩)) true ty).run Tryz.prog wr = _ := fun ty => Lib.run_next_any_at wr W2.heap.size F pos ty hit hp
      rw [decode_ascii F pos hp (Hasc.out pos hp)] at hnx
      have hip : wr.iterPos W2.heap.size = pos := by simp [World.iterPos, hit]
      have Hip := Lib.hid hip
      have hit2 := Lib.hid (Lib.iterAt_heap wr W2.heap.size F pos (pos + 1) hit)
      have hbw2 := Lib.hid (Lib.below_iterAt HI.out.2 (k := W2.heap.size) hW2 F (pos + 1))
      have hzw : W2.heap.size < (wr.iterAt W2.heap.size F (pos + 1)).heap.size := by rw [Lib.iterAt_size]; exact (Array.getElem?_eq_some_iff.1 hit).1
      have Hno := Lib.hid (fun (o : ByteArray) h => HI.out.1.no (out' := o) hp h)
      have Hyes := Lib.hid (fun (o : ByteArray) vn' vb' ns' bs' h => HI.out.1.yes (out' := o) (vn' := vn') (vb' := vb') (ns' := ns') (bs' := bs') hp h)
      obtain ⟨c, hc⟩ : ∃ c : UInt8, c = F[pos] := ⟨_, rfl⟩
      rw [← hc] at hnx Hno Hyes
      have hc8 : c.toNat < 256 := c.toNat_lt
      obtain ⟨wi, hwi⟩ : ∃ wi, wi = wr.iterAt W2.heap.size F (pos + 1) := ⟨_, rfl⟩
      rw [← hwi] at hnx hit2 hbw2 hzw
      clear hip hit hc hwi
      cases ok with
      | false =>
        have Hn2 := Lib.hid (Hno.out out rfl (by omega))
        rcases (show c = 104 ∨ c = 42 ∨ (c ≠ 104 ∧ c ≠ 42) by by_cases h4 : c = 104 <;> by_cases h2 : c = 42 <;> simp_all) with h4 | h4 | ⟨h4, h2⟩
        · subst h4
          go_wp2_with fail
          go_loopw [5, 6, 8, 11] (fun t5 t6 t8 t11 wx => t5 = .bool false ∧ t6 = .string out ∧ t8 = .slice Ab bs.length cb ∧ wx = wi) (fun _ _ _ _ _ => 0)
          case atStart => exact ⟨rfl, rfl, rfl, rfl⟩
          case round =>
            obtain ⟨rfl, rfl, rfl, rfl⟩ := hrel
            go_wp2_with fail
            refine ⟨⟨pos + 1, false, out, ns, bs, rfl, rfl, hit2.out, by omega, Hn2.out, hbw2.out⟩, ?_⟩
            rw [Hip.out]; simp only [World.iterPos, hit2.out]; omega
        · subst h4
          go_wp2_with fail
          go_loopw [5, 6, 8, 11] (fun t5 t6 t8 t11 wx => t5 = .bool false ∧ t6 = .string out ∧ t8 = .slice Ab bs.length cb ∧ wx = wi) (fun _ _ _ _ _ => 0)
          case atStart => exact ⟨rfl, rfl, rfl, rfl⟩
          case round =>
            obtain ⟨rfl, rfl, rfl, rfl⟩ := hrel
            go_wp2_with fail
            refine ⟨⟨pos + 1, false, out, ns, bs, rfl, rfl, hit2.out, by omega, Hn2.out, hbw2.out⟩, ?_⟩
            rw [Hip.out]; simp only [World.iterPos, hit2.out]; omega
        · have h4' : ((c.toNat : Int) == 104) = false := by
            rw [beq_eq_false_iff_ne]; intro e; apply h4; apply UInt8.toNat_inj.1; simpa using (show c.toNat = 104 by omega)
          have h2' : ((c.toNat : Int) == 42) = false := by
            rw [beq_eq_false_iff_ne]; intro e; apply h2; apply UInt8.toNat_inj.1; simpa using (show c.toNat = 42 by omega)
          clear h4 h2
          go_wp2_with fail
          refine ⟨⟨pos + 1, false, out, ns, bs, rfl, rfl, hit2.out, by omega, Hn2.out, hbw2.out⟩, ?_⟩
          rw [Hip.out]; simp only [World.iterPos, hit2.out]; omega
      | true =>
        rcases (show c = 104 ∨ c = 42 ∨ (c ≠ 104 ∧ c ≠ 42) by by_cases h4 : c = 104 <;> by_cases h2 : c = 42 <;> simp_all) with h4 | h4 | ⟨h4, h2⟩
        · subst h4
          by_cases hbs : bs.length = 0
          · have hd1 : decide ((1 : Int) ≤ (bs.length : Int)) = false := decide_eq_false (by omega)
            have Hn2 := Lib.hid (Hno.out out (by cases bs with | nil => rfl | cons b bs => simp at hbs) (by omega))
            clear hbs
            go_wp2_with fail
            go_loopw [5, 6, 8, 11] (fun t5 t6 t8 t11 wx => t5 = .bool false ∧ t6 = .string out ∧ t8 = .slice Ab bs.length cb ∧ wx = wi) (fun _ _ _ _ _ => 0)
            case atStart => exact ⟨rfl, rfl, rfl, rfl⟩
            case round =>
              obtain ⟨rfl, rfl, rfl, rfl⟩ := hrel
              go_wp2_with fail
              refine ⟨⟨pos + 1, false, out, ns, bs, rfl, rfl, hit2.out, by omega, Hn2.out, hbw2.out⟩, ?_⟩
              rw [Hip.out]; simp only [World.iterPos, hit2.out]; omega
          · have hbs1 : (1 : Int) ≤ (bs.length : Int) := by omega
            have Hs : Hid (∀ o : ByteArray, o.data.toList = out.data.toList ++ Dk.join ((bs.take 1).map Dk.hexT) → Dk.step (some (out.data.toList, ns, bs)) 104 = some (o.data.toList, ns, bs.drop 1)) := by
              intro o ho
              cases bs with
              | nil => simp at hbs
              | cons b bs => rw [ho]; simp [Dk.step, Dk.join]
            have HK : Hid (1 ≤ bs.length) := by show _ ≤ _; omega
            go_wp2_with fail
            go_loopw [5, 6, 8, 11] (fun t5 t6 t8 t11 wx => ∃ (j m : Nat) (o : ByteArray), t5 = .bool true ∧ t6 = .string o ∧ t11 = .int .i64 m ∧ wx.heap[W2.heap.size]? = some (.stringIter F (pos + 1)) ∧ o.size ≤ 1000000 + 3000000 * pos + 140000 * j ∧ j ≤ 20 ∧ m ≤ 20 ∧ Hid (j + m = 1 ∧ o.data.toList = out.data.toList ++ Dk.join ((bs.take j).map Dk.hexT) ∧ Is w NoAv t8 (rowsD (bs.drop j)) ∧ Below w.heap.size w wx)) (fun _ _ _ t11 _ => (intOf t11).toNat)
            case atStart => exact ⟨0, 1, out, rfl, rfl, rfl, hit2.out, by omega, by omega, by omega, by omega, by simp [Dk.join], HI.out.1.hb, hbw2.out⟩
            case round =>
              obtain ⟨j, m, o, rfl, rfl, rfl, hix, hoz, hj20, hm20, HJ⟩ := hrel
              have h1 := HK.out
              by_cases hm : 0 < m
              · have hj : j < bs.length := by have := HJ.out.1; omega
                obtain ⟨A, cc, hv, hcc, hr⟩ := HJ.out.2.2.1.rows
                subst hv
                have hdl : (bs.drop j).length = bs.length - j := List.length_drop
                obtain ⟨g, og, A', c2, rfl, _, hcell, hc2, hreads⟩ := hr 0 (by omega)
                have hb0 : (bs.drop j)[0]'(by omega) = bs[j] := by simp
                rw [hb0] at hcell hc2 hreads
                have hshort := HI.out.1.short bs[j] (List.getElem_mem hj)
                obtain ⟨b, hbj⟩ : ∃ b, b = bs[j] := ⟨_, rfl⟩
                rw [← hbj] at hcell hc2 hreads hshort
                have hcx : wr.cell? ⟨g, og, none⟩ = some (.slice A' b.length c2) := cell_stays HJ.out.2.2.2 (by simpa using hcell)
                have HRd := Lib.hid ((hreads.below HJ.out.2.2.2).more HJ.out.2.2.2.size)
                obtain ⟨n, hn⟩ : ∃ n, n = (bs.drop j).length := ⟨_, rfl⟩
                rw [← hn] at hcc
                have HIs : Hid (Is w NoAv (.slice (some ⟨g, og, none⟩) n cc) (rowsD (bs.drop j))) := by have := HJ.out.2.2.1; rwa [← hn] at this
                rw [← hn]
                have hn0 : 0 < n := by omega
                have hn5 : n ≤ 100000 := by omega
                have Hbj := Lib.hid hbj
                have Hn := Lib.hid hn
                clear hn hbj hb0 hcell hreads hr hdl h1
                have hlb64 : (b.length : Int) ≤ 65536 := by omega
                have hcc1 : cc = 1 ∨ 1 < cc := by omega
                have Hcat : Hid (∀ X : ByteArray, X.data.toList = Dk.hexT b → (o ++ ((⟨#[32]⟩ : ByteArray) ++ X)).data.toList = out.data.toList ++ Dk.join ((bs.take (j + 1)).map Dk.hexT)) := fun X hX => by
                  rw [cat32, hX, HJ.out.2.1, Dk.join_snoc bs j hj, ← Hbj.out, List.append_assoc]
                have hnx2 := rows_next HIs.out hn0
                have hn1 : n = 1 ∨ 1 < n := by omega
                rcases hcc1 with rfl | hcc1
                · obtain rfl : n = 1 := by omega
                  have Hnx2 := Lib.hid (hnx2.1 rfl)
                  clear hnx2 hn1
                  go_wp2_with fail
                  refine (hex_any A' c2 b wr HRd.out (by omega)).mono ?_
                  rintro e wx ⟨rfl, hbx⟩
                  obtain ⟨X, hX⟩ : ∃ X : ByteArray, X = ⟨(Dk.hexT b).toArray⟩ := ⟨_, rfl⟩
                  rw [← hX]
                  have HX : Hid (X.data.toList = Dk.hexT b) := by show _ = _; rw [hX]
                  have hXz : X.size ≤ 131073 := by rw [hX]; show (Dk.hexT b).length ≤ _; have := Dk.hexT_length b; omega
                  have hix2 := Lib.hid ((hbx.block W2.heap.size (Array.getElem?_eq_some_iff.1 hix).1).trans hix)
                  have Hbx := Lib.hid (HJ.out.2.2.2.trans (hbx.mono HJ.out.2.2.2.size))
                  clear hX hbx
                  go_wp2_with fail
                  refine ⟨⟨j + 1, m - 1, _, rfl, rfl, by congr 1; omega, hix2.out, by rw [cat32_size]; omega, by have := HJ.out.1; omega, by omega, by have := HJ.out.1; omega, Hcat.out X HX.out, Hnx2.out, Hbx.out⟩, by simp [intOf]; omega⟩
                · have Hnx2 := Lib.hid (hnx2.2 hcc1)
                  clear hnx2 hn1
                  go_wp2_with fail
                  refine (hex_any A' c2 b wr HRd.out (by omega)).mono ?_
                  rintro e wx ⟨rfl, hbx⟩
                  obtain ⟨X, hX⟩ : ∃ X : ByteArray, X = ⟨(Dk.hexT b).toArray⟩ := ⟨_, rfl⟩
                  rw [← hX]
                  have HX : Hid (X.data.toList = Dk.hexT b) := by show _ = _; rw [hX]
                  have hXz : X.size ≤ 131073 := by rw [hX]; show (Dk.hexT b).length ≤ _; have := Dk.hexT_length b; omega
                  have hix2 := Lib.hid ((hbx.block W2.heap.size (Array.getElem?_eq_some_iff.1 hix).1).trans hix)
                  have Hbx := Lib.hid (HJ.out.2.2.2.trans (hbx.mono HJ.out.2.2.2.size))
                  clear hX hbx
                  go_wp2_with fail
                  refine ⟨⟨j + 1, m - 1, _, rfl, rfl, by congr 1; omega, hix2.out, by rw [cat32_size]; omega, by have := HJ.out.1; omega, by omega, by have := HJ.out.1; omega, Hcat.out X HX.out, Hnx2.out, Hbx.out⟩, by simp [intOf]; omega⟩
              · obtain rfl : m = 0 := by omega
                have hoz2 : o.size ≤ 1000000 + 3000000 * (pos + 1) := by omega
                obtain rfl : j = 1 := by have := HJ.out.1; omega
                have hdl : (bs.drop 1).length ≤ bs.length := by rw [List.length_drop]; exact Nat.sub_le _ _
                have Hy := Lib.hid (Hyes.out o _ _ _ _ (Hs.out o HJ.out.2.1) HI.out.1.hn HJ.out.2.2.1 (fun n hn => hn) (fun b hb => List.mem_of_mem_drop hb) (Nat.le_refl _) hdl hoz2)
                clear hdl
                go_wp2_with fail
                refine ⟨⟨pos + 1, true, o, ns, bs.drop 1, rfl, rfl, hix, by omega, Hy.out, HJ.out.2.2.2⟩, ?_⟩
                rw [Hip.out]; simp only [World.iterPos, hix]; omega
  
        · subst h4
          by_cases hbs : bs.length ≤ 20
          · have hbs1 : (bs.length : Int) ≤ 20 := by omega
            have Hs : Hid (∀ o : ByteArray, o.data.toList = out.data.toList ++ Dk.join ((bs.take bs.length).map Dk.hexT) → Dk.step (some (out.data.toList, ns, bs)) 42 = some (o.data.toList, ns, bs.drop bs.length)) := by
              intro o ho
              rw [ho, List.take_length, List.drop_length]
              show (if bs.length ≤ 20 then some (out.data.toList ++ Dk.join (bs.map Dk.hexT), ns, []) else none) = _
              rw [if_pos hbs]
            have HK : Hid (bs.length ≤ bs.length) := Nat.le_refl _
            go_wp2_with fail
            go_loopw [5, 6, 8, 11] (fun t5 t6 t8 t11 wx => ∃ (j m : Nat) (o : ByteArray), t5 = .bool true ∧ t6 = .string o ∧ t11 = .int .i64 m ∧ wx.heap[W2.heap.size]? = some (.stringIter F (pos + 1)) ∧ o.size ≤ 1000000 + 3000000 * pos + 140000 * j ∧ j ≤ 20 ∧ m ≤ 20 ∧ Hid (j + m = bs.length ∧ o.data.toList = out.data.toList ++ Dk.join ((bs.take j).map Dk.hexT) ∧ Is w NoAv t8 (rowsD (bs.drop j)) ∧ Below w.heap.size w wx)) (fun _ _ _ t11 _ => (intOf t11).toNat)
            case atStart => exact ⟨0, bs.length, out, rfl, rfl, rfl, hit2.out, by omega, by omega, by omega, by omega, by simp [Dk.join], HI.out.1.hb, hbw2.out⟩
            case round =>
              obtain ⟨j, m, o, rfl, rfl, rfl, hix, hoz, hj20, hm20, HJ⟩ := hrel
              have h1 := HK.out
              by_cases hm : 0 < m
              · have hj : j < bs.length := by have := HJ.out.1; omega
                obtain ⟨A, cc, hv, hcc, hr⟩ := HJ.out.2.2.1.rows
                subst hv
                have hdl : (bs.drop j).length = bs.length - j := List.length_drop
                obtain ⟨g, og, A', c2, rfl, _, hcell, hc2, hreads⟩ := hr 0 (by omega)
                have hb0 : (bs.drop j)[0]'(by omega) = bs[j] := by simp
                rw [hb0] at hcell hc2 hreads
                have hshort := HI.out.1.short bs[j] (List.getElem_mem hj)
                obtain ⟨b, hbj⟩ : ∃ b, b = bs[j] := ⟨_, rfl⟩
                rw [← hbj] at hcell hc2 hreads hshort
                have hcx : wr.cell? ⟨g, og, none⟩ = some (.slice A' b.length c2) := cell_stays HJ.out.2.2.2 (by simpa using hcell)
                have HRd := Lib.hid ((hreads.below HJ.out.2.2.2).more HJ.out.2.2.2.size)
                obtain ⟨n, hn⟩ : ∃ n, n = (bs.drop j).length := ⟨_, rfl⟩
                rw [← hn] at hcc
                have HIs : Hid (Is w NoAv (.slice (some ⟨g, og, none⟩) n cc) (rowsD (bs.drop j))) := by have := HJ.out.2.2.1; rwa [← hn] at this
                rw [← hn]
                have hn0 : 0 < n := by omega
                have hn5 : n ≤ 100000 := by omega
                have Hbj := Lib.hid hbj
                have Hn := Lib.hid hn
                clear hn hbj hb0 hcell hreads hr hdl h1
                have hlb64 : (b.length : Int) ≤ 65536 := by omega
                have hcc1 : cc = 1 ∨ 1 < cc := by omega
                have Hcat : Hid (∀ X : ByteArray, X.data.toList = Dk.hexT b → (o ++ ((⟨#[32]⟩ : ByteArray) ++ X)).data.toList = out.data.toList ++ Dk.join ((bs.take (j + 1)).map Dk.hexT)) := fun X hX => by
                  rw [cat32, hX, HJ.out.2.1, Dk.join_snoc bs j hj, ← Hbj.out, List.append_assoc]
                have hnx2 := rows_next HIs.out hn0
                have hn1 : n = 1 ∨ 1 < n := by omega
                rcases hcc1 with rfl | hcc1
                · obtain rfl : n = 1 := by omega
                  have Hnx2 := Lib.hid (hnx2.1 rfl)
                  clear hnx2 hn1
                  go_wp2_with fail
                  refine (hex_any A' c2 b wr HRd.out (by omega)).mono ?_
                  rintro e wx ⟨rfl, hbx⟩
                  obtain ⟨X, hX⟩ : ∃ X : ByteArray, X = ⟨(Dk.hexT b).toArray⟩ := ⟨_, rfl⟩
                  rw [← hX]
                  have HX : Hid (X.data.toList = Dk.hexT b) := by show _ = _; rw [hX]
                  have hXz : X.size ≤ 131073 := by rw [hX]; show (Dk.hexT b).length ≤ _; have := Dk.hexT_length b; omega
                  have hix2 := Lib.hid ((hbx.block W2.heap.size (Array.getElem?_eq_some_iff.1 hix).1).trans hix)
                  have Hbx := Lib.hid (HJ.out.2.2.2.trans (hbx.mono HJ.out.2.2.2.size))
                  clear hX hbx
                  go_wp2_with fail
                  refine ⟨⟨j + 1, m - 1, _, rfl, rfl, by congr 1; omega, hix2.out, by rw [cat32_size]; omega, by have := HJ.out.1; omega, by omega, by have := HJ.out.1; omega, Hcat.out X HX.out, Hnx2.out, Hbx.out⟩, by simp [intOf]; omega⟩
                · have Hnx2 := Lib.hid (hnx2.2 hcc1)
                  clear hnx2 hn1
                  go_wp2_with fail
                  refine (hex_any A' c2 b wr HRd.out (by omega)).mono ?_
                  rintro e wx ⟨rfl, hbx⟩
                  obtain ⟨X, hX⟩ : ∃ X : ByteArray, X = ⟨(Dk.hexT b).toArray⟩ := ⟨_, rfl⟩
                  rw [← hX]
                  have HX : Hid (X.data.toList = Dk.hexT b) := by show _ = _; rw [hX]
                  have hXz : X.size ≤ 131073 := by rw [hX]; show (Dk.hexT b).length ≤ _; have := Dk.hexT_length b; omega
                  have hix2 := Lib.hid ((hbx.block W2.heap.size (Array.getElem?_eq_some_iff.1 hix).1).trans hix)
                  have Hbx := Lib.hid (HJ.out.2.2.2.trans (hbx.mono HJ.out.2.2.2.size))
                  clear hX hbx
                  go_wp2_with fail
                  refine ⟨⟨j + 1, m - 1, _, rfl, rfl, by congr 1; omega, hix2.out, by rw [cat32_size]; omega, by have := HJ.out.1; omega, by omega, by have := HJ.out.1; omega, Hcat.out X HX.out, Hnx2.out, Hbx.out⟩, by simp [intOf]; omega⟩
              · obtain rfl : m = 0 := by omega
                have hoz2 : o.size ≤ 1000000 + 3000000 * (pos + 1) := by omega
                obtain rfl : j = bs.length := by have := HJ.out.1; omega
                have hdl : (bs.drop bs.length).length ≤ bs.length := by rw [List.length_drop]; exact Nat.sub_le _ _
                have Hy := Lib.hid (Hyes.out o _ _ _ _ (Hs.out o HJ.out.2.1) HI.out.1.hn HJ.out.2.2.1 (fun n hn => hn) (fun b hb => List.mem_of_mem_drop hb) (Nat.le_refl _) hdl hoz2)
                clear hdl
                go_wp2_with fail
                refine ⟨⟨pos + 1, true, o, ns, bs.drop bs.length, rfl, rfl, hix, by omega, Hy.out, HJ.out.2.2.2⟩, ?_⟩
                rw [Hip.out]; simp only [World.iterPos, hix]; omega
  
          · have hd1 : decide ((bs.length : Int) ≤ 20) = false := decide_eq_false (by omega)
            have Hn2 := Lib.hid (Hno.out out (by show (if bs.length ≤ 20 then some (out.data.toList ++ Dk.join (bs.map Dk.hexT), ns, []) else none) = none; rw [if_neg hbs]) (by omega))
            clear hbs
            go_wp2_with fail
            go_loopw [5, 6, 8, 11] (fun t5 t6 t8 t11 wx => t5 = .bool false ∧ t6 = .string out ∧ t8 = .slice Ab bs.length cb ∧ wx = wi) (fun _ _ _ _ _ => 0)
            case atStart => exact ⟨rfl, rfl, rfl, rfl⟩
            case round =>
              obtain ⟨rfl, rfl, rfl, rfl⟩ := hrel
              go_wp2_with fail
              refine ⟨⟨pos + 1, false, out, ns, bs, rfl, rfl, hit2.out, by omega, Hn2.out, hbw2.out⟩, ?_⟩
              rw [Hip.out]; simp only [World.iterPos, hit2.out]; omega
        · have h4' : ((c.toNat : Int) == 104) = false := by
            rw [beq_eq_false_iff_ne]; intro e; apply h4; apply UInt8.toNat_inj.1; simpa using (show c.toNat = 104 by omega)
          have h2' : ((c.toNat : Int) == 42) = false := by
            rw [beq_eq_false_iff_ne]; intro e; apply h2; apply UInt8.toNat_inj.1; simpa using (show c.toNat = 42 by omega)
          have H0 := Lib.hid (fun h => Dk.step_nil h4 h2 out.data.toList (ns := ns) bs h)
          have H1 := Lib.hid (fun h => Dk.step_no h4 h2 out.data.toList (ns := ns) bs h)
          have H2 := Lib.hid (fun h => Dk.step_yes h4 h2 out.data.toList (ns := ns) bs h)
          clear h4 h2
          by_cases hns : ns.length = 0
          · have hd1 : decide ((0 : Int) < (ns.length : Int)) = false := decide_eq_false (by omega)
            have hd2 : decide (0 < ns.length) = false := decide_eq_false (by omega)
            have Hn2 := Lib.hid (Hno.out out (H0.out hns) (by omega))
            clear hns
            go_wp2_with fail
            refine ⟨⟨pos + 1, false, out, ns, bs, rfl, rfl, hit2.out, by omega, Hn2.out, hbw2.out⟩, ?_⟩
            rw [Hip.out]; simp only [World.iterPos, hit2.out]; omega
          · have hd0 : (0 : Int) < (ns.length : Int) := by omega
            obtain ⟨g, og, rfl, _, hcell⟩ := Hnums.out 0 (by omega)
            obtain ⟨n0, hn0⟩ : ∃ n0, n0 = ns[0]'(by omega) := ⟨_, rfl⟩
            rw [← hn0] at hcell
            have hr0 := HI.out.1.i64 n0 (by rw [hn0]; exact List.getElem_mem _)
            have hcx : wi.cell? ⟨g, og, none⟩ = some (.int .i64 n0) := cell_stays hbw2.out (by simpa using hcell)
            cases hok : Dk.okNum c n0 with
            | false =>
              have Hn2 := Lib.hid (Hno.out out (H1.out (by omega) (by rw [← hn0]; exact hok)) (by omega))
              have Hok := Lib.hid hok
              clear hns hn0 hok hcell
              go_wp2_with fail
              refine (number_any c n0 wi hr0.1 hr0.2).mono ?_
              rintro e w1 ⟨rfl, rfl⟩
              rw [Hok.out]
              go_wp2_with fail
              refine ⟨⟨pos + 1, false, out, ns, bs, rfl, rfl, hit2.out, by omega, Hn2.out, hbw2.out⟩, ?_⟩
              rw [Hip.out]; simp only [World.iterPos, hit2.out]; omega
            | true =>
              have Hs : Hid (∀ o : ByteArray, o.data.toList = out.data.toList ++ 32 :: Lib.itoa n0 → Dk.step (some (out.data.toList, ns, bs)) c = some (o.data.toList, ns.drop 1, bs)) := by
                intro o ho
                rw [H2.out (by omega) (by rw [← hn0]; exact hok), ho, ← hn0]
              have Hok := Lib.hid hok
              have hns1 : 1 ≤ ns.length := by omega
              have hnx2 := HI.out.1.hn.numsDrop 1 (by omega)
              have hn1 : cn = 1 → ns.length = 1 := by omega
              clear hns hn0 hok hcell
              have hl64 := Lib.itoa_length_le n0 hr0.1 hr0.2
              have hcc1 : cn = 1 ∨ 1 < cn := by omega
              rcases hcc1 with rfl | hcc1
              · rw [if_pos rfl] at hnx2
                have Hnx2 := Lib.hid hnx2
                have hn1' := hn1 rfl
                rw [hn1'] at Hnx2
                clear hnx2 hn1
                go_wp2_with fail
                refine (number_any c n0 wi hr0.1 hr0.2).mono ?_
                rintro e w1 ⟨rfl, rfl⟩
                rw [Hok.out]
                go_wp2_with fail
                refine (fmt_any n0 _ hr0.1 hr0.2 (HE.out.stays hbw2.out)).mono ?_
                rintro e wx ⟨rfl, hbx⟩
                obtain ⟨X, hX⟩ : ∃ X : ByteArray, X = ⟨(Lib.itoa n0).toArray⟩ := ⟨_, rfl⟩
                rw [← hX]
                have HX : Hid (X.data.toList = Lib.itoa n0) := by show _ = _; rw [hX]
                have hXz : X.size ≤ 21 := by rw [hX]; exact hl64
                have hix2 := Lib.hid ((hbx.block W2.heap.size hzw).trans hit2.out)
                have Hbx := Lib.hid (hbw2.out.trans (hbx.mono (by have := hbw2.out.size; omega)))
                have Hy := Lib.hid (Hyes.out (out ++ ((⟨#[32]⟩ : ByteArray) ++ X)) _ _ _ _ (Hs.out _ (by rw [cat32, HX.out])) Hnx2.out HI.out.1.hb (fun n hn => List.mem_of_mem_drop hn) (fun b hb => hb) (by rw [List.length_drop]; exact Nat.sub_le _ _) (Nat.le_refl _) (by rw [cat32_size]; omega))
                clear hX hbx
                go_wp2_with fail
                refine ⟨⟨pos + 1, true, _, ns.drop 1, bs, rfl, rfl, hix2.out, by omega, Hy.out, Hbx.out⟩, ?_⟩
                rw [Hip.out]; simp only [World.iterPos, hix2.out]; omega
              · rw [if_neg (by omega)] at hnx2
                have Hnx2 : Hid (Is w NoAv (.slice (some ⟨g, og + 1, none⟩) (ns.length - 1) (cn - 1)) (numsD (ns.drop 1))) := by
                  show Is w NoAv _ _; simpa [Addr.add] using hnx2
                clear hnx2 hn1
                go_wp2_with fail
                refine (number_any c n0 wi hr0.1 hr0.2).mono ?_
                rintro e w1 ⟨rfl, rfl⟩
                rw [Hok.out]
                go_wp2_with fail
                refine (fmt_any n0 _ hr0.1 hr0.2 (HE.out.stays hbw2.out)).mono ?_
                rintro e wx ⟨rfl, hbx⟩
                obtain ⟨X, hX⟩ : ∃ X : ByteArray, X = ⟨(Lib.itoa n0).toArray⟩ := ⟨_, rfl⟩
                rw [← hX]
                have HX : Hid (X.data.toList = Lib.itoa n0) := by show _ = _; rw [hX]
                have hXz : X.size ≤ 21 := by rw [hX]; exact hl64
                have hix2 := Lib.hid ((hbx.block W2.heap.size hzw).trans hit2.out)
                have Hbx := Lib.hid (hbw2.out.trans (hbx.mono (by have := hbw2.out.size; omega)))
                have Hy := Lib.hid (Hyes.out (out ++ ((⟨#[32]⟩ : ByteArray) ++ X)) _ _ _ _ (Hs.out _ (by rw [cat32, HX.out])) Hnx2.out HI.out.1.hb (fun n hn => List.mem_of_mem_drop hn) (fun b hb => hb) (by rw [List.length_drop]; exact Nat.sub_le _ _) (Nat.le_refl _) (by rw [cat32_size]; omega))
                clear hX hbx
                go_wp2_with fail
                refine ⟨⟨pos + 1, true, _, ns.drop 1, bs, rfl, rfl, hix2.out, by omega, Hy.out, Hbx.out⟩, ?_⟩
                rw [Hip.out]; simp only [World.iterPos, hix2.out]; omega
    · obtain rfl : pos = F.size := by omega
      have hnx : ∀ ty, (Instr.next (.pointer (some ⟨W2.heap.size, 0, none⟩)) true ty).run Tryz.prog wr = _ := fun ty => Lib.run_next_end_at wr W2.heap.size F F.size ty hit hp
      have He := Lib.hid (HI.out.1.end_ HFm.out)
      cases ok with
      | false =>
        have Hf := Lib.hid (text_no (l := l) (by rw [He.out, if_neg (by simp)]) rfl HI.out.2)
        go_wp2_with fail
        go_ret2
        exact Hf.out
      | true =>
        by_cases h0 : ns.length + bs.length = 0
        · have Hf := Lib.hid (text_yes (l := l) (t := out) (by rw [He.out, if_pos ⟨rfl, List.eq_nil_of_length_eq_zero (by omega), List.eq_nil_of_length_eq_zero (by omega)⟩]) rfl HI.out.2)
          have hd1 : decide ((0 : Int) < (ns.length : Int) + (bs.length : Int)) = false := decide_eq_false (by omega)
          clear h0
          go_wp2_with fail
          go_ret2
          exact Hf.out
        · have Hf := Lib.hid (text_no (l := l) (by rw [He.out, if_neg (by rintro ⟨_, h1, h2⟩; apply h0; rw [h1, h2]; rfl)]) rfl HI.out.2)
          have hd1 : decide ((0 : Int) < (ns.length : Int) + (bs.length : Int)) = true := decide_eq_true (by omega)
          clear h0
          go_wp2_with fail
          go_ret2
          exact Hf.out
set_option maxHeartbeats 1000000 in
set_option maxRecDepth 100000 in
theorem text_none (v : Value) (l : Dk.Ln) (w : World) (hl : LineAt w NoAv v l) (hfm : Dk.formL l.word = none) :
    Calls Tryz.prog 13 #[v] w (TextPost l w) := by
  obtain ⟨vn, vb, rfl, hn, hb⟩ := hl
  have HF : Hid (formVal (⟨l.word.toArray⟩ : ByteArray).data.toList = .tuple #[.string ⟨#[]⟩, .bool false]) := formVal_none hfm
  have Hf : Hid (∀ w', Below w.heap.size w w' → TextPost l w (.returned (.tuple #[.string ⟨#[]⟩, .int .i64 120])) w') := fun w' hB => text_no (by unfold Dk.txt; rw [hfm]) rfl hB
  obtain ⟨s, hs⟩ : ∃ s : ByteArray, s = ⟨l.word.toArray⟩ := ⟨_, rfl⟩
  rw [← hs] at HF ⊢
  obtain ⟨An, cn, rfl, _, _⟩ := hn.nums
  obtain ⟨Ab, cb, rfl, _, _⟩ := hb.rows
  clear hn hb hs hfm
  go_enter Tryz.func13, Tryz.ntmps13
  go_wp2_with fail
  refine (form_any s _).mono ?_
  rintro e w1 ⟨rfl, rfl⟩
  rw [HF.out]
  obtain ⟨W, hW⟩ : ∃ W, W = w.alloc (.cells #[.string s, .slice An l.nums.length cn, .slice Ab l.bytes.length cb] 26) := ⟨_, rfl⟩
  have hc0 : W.cell? ⟨w.heap.size, 0, none⟩ = some (.string s) := by rw [hW, World.cell?_alloc_new]; rfl
  have hc1 : W.cell? ⟨w.heap.size, 1, none⟩ = some (.slice An l.nums.length cn) := by rw [hW, World.cell?_alloc_new]; rfl
  have hc2 : W.cell? ⟨w.heap.size, 2, none⟩ = some (.slice Ab l.bytes.length cb) := by rw [hW, World.cell?_alloc_new]; rfl
  have HB : Hid (Below w.heap.size w W ∧ w.heap.size < W.heap.size) := by
    show _ ∧ _; rw [hW]; exact ⟨(Below.refl _ w).alloc (Nat.le_refl _) _, by simp⟩
  rw [← hW]
  clear hW
  go_wp2_with fail
  go_quiet (fail)
  go_wp2_with fail
  have HZ : Hid (∃ W2, W2 = W.drewN nq ∧ Below w.heap.size w W2 ∧ W2.heap.size = W.heap.size) := ⟨_, rfl, below_drewN HB.out.1 nq, rfl⟩
  obtain ⟨W2, hW2, hB2, hz2⟩ := HZ.out
  clear hc0 hc1 hc2
  rw [← hW2]
  rw [show W.heap.size = W2.heap.size from hz2.symm] at *
  clear HZ hW2 hz2 HB
  have HB2 := Lib.hid hB2
  clear hB2
  go_loopw [5, 6, 7, 8] (fun t5 t6 t7 t8 wr => t5 = .bool false ∧ t6 = .string s ∧ t7 = .slice An l.nums.length cn ∧ t8 = .slice Ab l.bytes.length cb ∧ wr = W2.alloc (.stringIter ⟨#[]⟩ 0)) (fun _ _ _ _ wr => 0)
  case atStart => exact ⟨rfl, rfl, rfl, rfl, rfl⟩
  case round =>
    obtain ⟨rfl, rfl, rfl, rfl, rfl⟩ := hrel
    have hnx : ∀ ty, (Instr.next (.pointer (some ⟨W2.heap.size, 0, none⟩)) true ty).run Tryz.prog (W2.alloc (.stringIter ⟨#[]⟩ 0)) = _ := fun ty => Lib.run_next_end_at _ W2.heap.size ⟨#[]⟩ 0 ty (World.iter_heap W2 ⟨#[]⟩ 0) (by decide)
    go_wp2_with fail
    go_ret2
    exact Hf.out _ (HB2.out.alloc (by have := HB2.out.size; omega) _)
/-- Text of any line. -/
theorem text_any (v : Value) (l : Dk.Ln) (w : World) (hl : LineAt w NoAv v l) (hf : Fine l) (hw : l.word.length ≤ 100000) (he : Env w) :
    Calls Tryz.prog 13 #[v] w (TextPost l w) := by
  cases hfm : Dk.formL l.word with
  | none => exact text_none v l w hl hfm
  | some f => exact text_loop v l ⟨f.toArray⟩ w hl hf hw he (by rw [hfm])
end Go.Proofs.YtigfogpfcbcdhaaGreatDoor
