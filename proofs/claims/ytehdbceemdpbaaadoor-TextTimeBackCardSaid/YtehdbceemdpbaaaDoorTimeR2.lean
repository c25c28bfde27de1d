/- The walk of the reference's Long. -/
import Derived.Test.YtehdbceemdpbaaaDoorTimeR
namespace Go.Proofs.YtehdbceemdpbaaaDoor
open Go Go.RowKit

/-! ### a text without the noughts at its end, as bytes -/
theorem ba_size (f : ByteArray) (k : Nat) (h : k ≤ f.size) : (f.extract 0 k).size = k := by
  rw [Lib.size_eq, Lib.extract_data, List.length_take, List.length_drop, ← Lib.size_eq]; omega
theorem ba_split (f : ByteArray) (hf : 0 < f.size) : f.data.toList = (f.extract 0 (f.size - 1)).data.toList ++ [f[f.size - 1]] := by
  have hl : f.size = f.data.toList.length := Lib.size_eq f
  have e : (f.extract 0 (f.size - 1)).data.toList = f.data.toList.take (f.size - 1) := by
    rw [Lib.extract_data]; rfl
  rw [e]
  have h1 : f.data.toList.take (f.size - 1 + 1) = f.data.toList.take (f.size - 1) ++ [f.data.toList[f.size - 1]'(by omega)] := List.take_succ_eq_append_getElem (by omega)
  have h2 : f.data.toList.take (f.size - 1 + 1) = f.data.toList := List.take_of_length_le (by omega)
  rw [h2] at h1
  exact h1
theorem dropWhile_nil {p : UInt8 → Bool} : ∀ {l : List UInt8}, l.dropWhile p = [] → ∀ x ∈ l, p x = true
  | [], _, x, hx => by cases hx
  | a :: l, h, x, hx => by
    rw [List.dropWhile_cons] at h
    split at h
    · rename_i ha
      rcases List.mem_cons.1 hx with rfl | hx
      · exact ha
      · exact dropWhile_nil h x hx
    · cases h
theorem byte_eq {c : UInt8} {n : Nat} (h : ((c.toNat : Int) == (n : Int)) = true) (hn : n < 256) : c = UInt8.ofNat n := by
  apply UInt8.toNat_inj.1
  rw [UInt8.toNat_ofNat']
  have := beq_iff_eq.1 h
  omega
theorem byte_ne {c : UInt8} {n : Nat} (h : ((c.toNat : Int) == (n : Int)) = false) (hn : n < 256) : c ≠ UInt8.ofNat n := by
  rintro rfl
  rw [UInt8.toNat_ofNat'] at h
  simp at h
  omega
theorem nonzero_digit (f n k : Nat) (h : n < 10 ^ f) (hn : 0 < n) : ∃ c ∈ Dig.dgsF f n k, c ≠ 48 := by
  induction f generalizing n k with
  | zero => simp at h; omega
  | succ f ih =>
    rw [Dig.dgsF_step _ _ _ (by omega)]
    by_cases hz : n % 10 = 0
    · obtain ⟨c, hc, h48⟩ := ih (n / 10) (k - 1) (Dig.pow_step h) (by omega)
      exact ⟨c, List.mem_append_left _ hc, h48⟩
    · refine ⟨Dig.dig n, by simp, fun e => ?_⟩
      have := congrArg UInt8.toNat e
      rw [Dig.dig_toNat] at this
      simp at this
      omega
theorem rstrip_ne (l : List UInt8) (h : ∃ c ∈ l, c ≠ 48) : Tm.rstrip l ≠ [] := by
  obtain ⟨c, hc, h48⟩ := h
  unfold Tm.rstrip
  intro e
  rw [List.reverse_eq_nil_iff] at e
  have := dropWhile_nil e c (List.mem_reverse.2 hc)
  simp at this
  exact h48 this
theorem rs_cut {f : ByteArray} (hf : 0 < f.size) (h : (((f[f.size - 1]).toNat : Int) == 48) = true) {D : List UInt8} (hD : Tm.rstrip f.data.toList = Tm.rstrip D) (hne : Tm.rstrip D ≠ []) :
    0 < (f.extract 0 (f.size - 1)).size ∧ (f.extract 0 (f.size - 1)).size < f.size ∧ Tm.rstrip (f.extract 0 (f.size - 1)).data.toList = Tm.rstrip D := by
  have hc := byte_eq (n := 48) h (by omega)
  have hs := ba_split f hf
  have hsz : (f.extract 0 (f.size - 1)).size = f.size - 1 := ba_size _ _ (by omega)
  have hr : Tm.rstrip f.data.toList = Tm.rstrip (f.extract 0 (f.size - 1)).data.toList := by
    rw [hs, hc]; exact Tm.rstrip_nought _
  refine ⟨?_, by omega, by rw [← hr, hD]⟩
  rcases Nat.eq_zero_or_pos (f.extract 0 (f.size - 1)).size with h0 | h0
  · have h1 : (f.extract 0 (f.size - 1)).data.toList = [] := List.eq_nil_of_length_eq_zero (by rw [← Lib.size_eq]; exact h0)
    rw [h1, hD] at hr
    exact absurd hr hne
  · exact h0
theorem rs_end {f : ByteArray} (hf : 0 < f.size) (h : (((f[f.size - 1]).toNat : Int) == 48) = false) : Tm.rstrip f.data.toList = f.data.toList := by
  have hc := byte_ne (n := 48) h (by omega)
  rw [ba_split f hf]
  exact Tm.rstrip_other _ _ hc
theorem ba_of (f : ByteArray) : (⟨f.data.toList.toArray⟩ : ByteArray) = f := by cases f; simp
def sizeOfS : Value → Nat | .string s => s.size | _ => 0
set_option maxHeartbeats 1000000 in
set_option maxRecDepth 100000 in
theorem reflong_yes (t : Int) (y m d s u : Nat) (w : World) (h0 : -62167219200 ≤ t) (h1 : t ≤ 253402300799) (hu : u ≤ 999999) (h : Hid (Cal.Is ((t + 62167219200) / 86400) y m d)) (hs : Hid ((s : Int) = (t + 62167219200) % 86400)) :
    Calls Tryd.prog 24 #[.int .i64 t, .int .i64 (u : Int)] w fun e w' => e = .returned (.tuple #[.string ⟨(Tm.long y m d s u).toArray⟩, .int .i64 0]) ∧ Below w.heap.size w w' := by
  have l1 := Dig.dgs_length_le y 4
  have l2 := Tm.clk_length_le m d s
  have hy0 := h.out.y0
  have hy1 := h.out.y1
  by_cases hu0 : 0 < u
  · have l3 := Dig.dgs_length_le u 6
    have Hne := Lib.hid (rstrip_ne _ (nonzero_digit 20 u 6 (by omega) hu0))
    have Hpos : Hid (0 < (⟨(Dig.dgs u 6).toArray⟩ : ByteArray).size) := by
      have := (Dig.dgs_all u 6 (by omega) (by omega)).1
      show _ < _
      rw [size_of_list]; omega
    have Hfin : Hid (∀ f : ByteArray, Tm.rstrip (Dig.dgs u 6) = f.data.toList → (⟨(Tm.long y m d s u).toArray⟩ : ByteArray) = ⟨(Dig.dgs y 4).toArray⟩ ++ ⟨(Tm.clk m d s).toArray⟩ ++ ⟨#[46]⟩ ++ f ++ ⟨#[90]⟩) := by
      intro f hf
      have e1 : ((⟨((Dig.dgs y 4 ++ Tm.clk m d s)).toArray⟩ : ByteArray) ++ (⟨#[46]⟩ : ByteArray)) = ⟨(Dig.dgs y 4 ++ Tm.clk m d s ++ [46]).toArray⟩ := str_add _ [46]
      rw [← ba_of f, ← hf, str_add (Dig.dgs y 4), e1, str_add _ (Tm.rstrip (Dig.dgs u 6)), str_Z]
      unfold Tm.long
      rw [if_neg (by omega), Tm.rstrip_dot]
      simp [Tm.txt, Tm.yr]
    go_enter Tryd.func24, Tryd.ntmps24
    go_wp2_with fail
    refine (refdate_yes _ _ _ _ _ h0 h1 h.out).mono ?_
    rintro e w' ⟨rfl, rfl⟩
    go_wp2_with fail
    refine (refdigits_is _ _ y 4 _ rfl rfl (by omega) (by omega)).mono ?_
    rintro e w1 ⟨rfl, B1⟩
    go_wp2_with fail
    refine (clock_any _ y m d s _ h0 h1 h hs).mono ?_
    rintro e w2 ⟨rfl, B2⟩
    have C2 := B1.trans (B2.mono B1.size)
    clear B1 B2
    go_wp2_with fail
    refine (refdigits_is _ _ u 6 _ rfl rfl (by omega) (by omega)).mono ?_
    rintro e w3 ⟨rfl, B3⟩
    have C3 := C2.trans (B3.mono C2.size)
    clear C2 B3
    go_wp2_with fail
    go_loop [11] (fun t11 => ∃ f : ByteArray, 0 < f.size ∧ f.size ≤ 20 ∧ t11 = .string f ∧ Hid (Tm.rstrip f.data.toList = Tm.rstrip (Dig.dgs u 6))) (fun t11 => sizeOfS t11)
    case atStart => exact ⟨_, Hpos.out, by rw [size_of_list]; omega, rfl, rfl⟩
    case round =>
      obtain ⟨f, hf0, hf1, rfl, HF⟩ := hrel
      go_wp2_with fail
      · have hb : (((f[f.size - 1]).toNat : Int) == 48) = true := by assumption
        have h3 := rs_cut hf0 hb HF.out Hne.out
        exact ⟨⟨_, h3.1, by omega, rfl, h3.2.2⟩, h3.2.1⟩
      · have hb : (((f[f.size - 1]).toNat : Int) == 48) = false := by assumption
        go_ret2
        exact ⟨by rw [Hfin.out f (by rw [← HF.out]; exact rs_end hf0 hb)]; rfl, C3⟩
  · obtain rfl : u = 0 := by omega
    have Hfin : Hid ((⟨(Tm.long y m d s 0).toArray⟩ : ByteArray) = ⟨(Dig.dgs y 4).toArray⟩ ++ ⟨(Tm.clk m d s).toArray⟩ ++ ⟨#[90]⟩) := by
      show _ = _
      rw [str_add (Dig.dgs y 4), str_Z]; rfl
    go_enter Tryd.func24, Tryd.ntmps24
    go_wp2_with fail
    refine (refdate_yes _ _ _ _ _ h0 h1 h.out).mono ?_
    rintro e w' ⟨rfl, rfl⟩
    go_wp2_with fail
    refine (refdigits_is _ _ y 4 _ rfl rfl (by omega) (by omega)).mono ?_
    rintro e w1 ⟨rfl, B1⟩
    go_wp2_with fail
    refine (clock_any _ y m d s _ h0 h1 h hs).mono ?_
    rintro e w2 ⟨rfl, B2⟩
    have C2 := B1.trans (B2.mono B1.size)
    clear B1 B2
    go_wp2_with fail
    go_ret2
    exact ⟨by rw [Hfin.out]; rfl, C2⟩
end Go.Proofs.YtehdbceemdpbaaaDoor
