/- The walks of Short and Long of the program, clock, Short and Long of the reference. -/
import Derived.Test.YtehdbceemdpbaaaDoorTimeW
namespace Go.Proofs.YtehdbceemdpbaaaDoor
open Go Go.RowKit

theorem short_no (t : Int) (w : World) (h : t < -631152000 ∨ 2524607999 < t) :
    Calls Tryd.prog 21 #[.int .i64 t] w fun e w' => e = .returned (.tuple #[.string ⟨#[]⟩, .int .i64 21]) ∧ w = w' := by
  rcases h with h | h
  · go_enter Tryd.func21, Tryd.ntmps21
    go_wp2_with fail
    go_ret2
    exact ⟨rfl, rfl⟩
  · have h' : ¬ t < -631152000 := by omega
    go_enter Tryd.func21, Tryd.ntmps21
    go_wp2_with fail
    go_ret2
    exact ⟨rfl, rfl⟩
theorem own_str {base : Nat} {w : World} {v : Value} {l : List UInt8} (h : w.ownsRow base 5 1 v l.length (Lib.byteCells l)) : ∃ B A c, v = .slice A l.length c ∧ Reads w B 1 A l.length (Lib.byteCells l) := by
  obtain ⟨A, c, hv, hr⟩ := reads_own h
  exact ⟨_, A, c, hv, hr⟩
theorem str_add (a b : List UInt8) : ((⟨a.toArray⟩ : ByteArray) ++ (⟨b.toArray⟩ : ByteArray)) = ⟨(a ++ b).toArray⟩ := by
  rw [str_app]; simp
theorem str_Z (a : List UInt8) : ((⟨a.toArray⟩ : ByteArray) ++ (⟨#[90]⟩ : ByteArray)) = ⟨(a ++ [90]).toArray⟩ := str_add a [90]
set_option maxHeartbeats 1000000 in
theorem short_yes (t : Int) (y m d s : Nat) (w : World) (h0 : -631152000 ≤ t) (h1 : t ≤ 2524607999) (h : Hid (Cal.Is ((t + 62167219200) / 86400) y m d)) (hs : Hid ((s : Int) = (t + 62167219200) % 86400)) :
    Calls Tryd.prog 21 #[.int .i64 t] w fun e w' => e = .returned (.tuple #[.string ⟨(Tm.short y m d s).toArray⟩, .int .i64 0]) ∧ Below w.heap.size w w' := by
  have hlen := Tm.txt_length_le y m d s 2
  go_enter Tryd.func21, Tryd.ntmps21
  go_wp2_with fail
  refine (written_any t y m d s 2 _ (by omega) (by omega) h.out hs.out (.inl rfl)).mono ?_
  rintro e w1 ⟨v1, rfl, A1⟩
  have B1 := Lib.hid A1
  clear A1
  go_wp2_with (refine wpList_tostr rfl (.tmp 11) 25 9 5 rfl Tryd.underlying25 Tryd.underlying5 Tryd.underlying9 v1 rfl _ (own_str B1.out.own) ?_)
  go_ret2
  exact ⟨by rw [Tm.short, ← str_Z]; rfl, B1.out.below (appB_nil _ _) (Nat.le_refl _)⟩
theorem long_arg (t micros : Int) (w : World) (h : micros < 0 ∨ 999999 < micros) :
    Calls Tryd.prog 23 #[.int .i64 t, .int .i64 micros] w fun e w' => e = .returned (.tuple #[.string ⟨#[]⟩, .int .i64 1]) ∧ w = w' := by
  rcases h with h | h
  · go_enter Tryd.func23, Tryd.ntmps23
    go_wp2_with fail
    go_ret2
    exact ⟨rfl, rfl⟩
  · have h' : ¬ micros < 0 := by omega
    go_enter Tryd.func23, Tryd.ntmps23
    go_wp2_with fail
    go_ret2
    exact ⟨rfl, rfl⟩
theorem long_no (t micros : Int) (w : World) (hm0 : 0 ≤ micros) (hm1 : micros ≤ 999999) (h : t < -62167219200 ∨ 253402300799 < t) :
    Calls Tryd.prog 23 #[.int .i64 t, .int .i64 micros] w fun e w' => e = .returned (.tuple #[.string ⟨#[]⟩, .int .i64 21]) ∧ w = w' := by
  rcases h with h | h
  · go_enter Tryd.func23, Tryd.ntmps23
    go_wp2_with fail
    go_ret2
    exact ⟨rfl, rfl⟩
  · have h' : ¬ t < -62167219200 := by omega
    go_enter Tryd.func23, Tryd.ntmps23
    go_wp2_with fail
    go_ret2
    exact ⟨rfl, rfl⟩
def lenS : Value → Nat | .slice _ n _ => n | _ => 0
set_option maxHeartbeats 1000000 in
set_option maxRecDepth 100000 in
theorem long_yes (t : Int) (y m d s u : Nat) (w : World) (h0 : -62167219200 ≤ t) (h1 : t ≤ 253402300799) (hu : u ≤ 999999) (h : Hid (Cal.Is ((t + 62167219200) / 86400) y m d)) (hs : Hid ((s : Int) = (t + 62167219200) % 86400)) :
    Calls Tryd.prog 23 #[.int .i64 t, .int .i64 (u : Int)] w fun e w' => e = .returned (.tuple #[.string ⟨(Tm.long y m d s u).toArray⟩, .int .i64 0]) ∧ Below w.heap.size w w' := by
  have hlen := Tm.txt_length_le y m d s 4
  by_cases hu0 : 0 < u
  · obtain ⟨i0, hi0, hz0, hz1, hz2⟩ := info_parts info_u8
    have Hl : Hid (Tm.long y m d s u = Tm.rstrip (Tm.txt y m d s 4 ++ [46] ++ Dig.dgs u 6) ++ [90]) := by
      show _ = _
      unfold Tm.long; rw [if_neg (by omega)]; simp
    have hdl := Dig.dgs_length_le u 6
    go_enter Tryd.func23, Tryd.ntmps23
    go_wp2_with fail
    refine (written_any t y m d s 4 _ h0 h1 h.out hs.out (.inr rfl)).mono ?_
    rintro e w1 ⟨v1, rfl, A1⟩
    have B1 := Lib.hid A1
    have hz1' := A1.grown.size
    clear A1
    have hz1'' : w.heap.size ≤ w1.heap.size := hz1'
    go_wp2_with (refine wpList_push rfl (.tmp 23) (.tmp 24) 25 rfl w.heap.size i0 Tryd.underlying25 hi0 hz0 hz1 hz2 v1 _ rfl B1.out.own 46 46 rfl 1 rfl (by omega) hz1'' ?_; intro v2 w2 A2)
    have B2 := Lib.hid (B1.out.trans A2)
    have hz2' := B2.out.grown.size
    clear A2
    refine (digits_int _ _ _ _ w.heap.size _ B2.out.own hz2' (by simp; omega) (by omega) (by omega) (by omega) (by omega)).mono ?_
    rintro e w3 ⟨v3, rfl, A3⟩
    have B3 := Lib.hid (B2.out.trans A3)
    rw [show Int.toNat 6 = 6 from rfl, Int.toNat_natCast] at B3
    clear A3 B2 hz2'
    obtain ⟨L, hL⟩ : ∃ L, L = Tm.txt y m d s 4 ++ [46] ++ Dig.dgs u 6 := ⟨_, rfl⟩
    have hLl : L.length ≤ 200 := by rw [hL]; simp; omega
    have hP : (Tm.txt y m d s 4).length < L.length := by rw [hL]; simp
    have hdot : L[(Tm.txt y m d s 4).length]'hP = 46 := by subst hL; simp
    rw [← hL] at B3 Hl
    obtain ⟨A, c, hv, hr⟩ := reads_own B3.out.own
    have HR := Lib.hid hr
    have hLc : L.length ≤ c := by
      rcases B3.out.own.2 with ⟨h1, h2⟩ | ⟨g, cap, cur, h1, _, _, h2, _⟩
      · omega
      · rw [hv] at h1; injection h1 with _ _ h3; omega
    obtain ⟨ad, hA, _, hcl⟩ := hr.2 (by omega)
    subst hA
    have HC := Lib.hid hcl
    clear hcl hr
    subst hv
    obtain ⟨P, hPe⟩ : ∃ P, P = (Tm.txt y m d s 4).length := ⟨_, rfl⟩
    have HPe := Lib.hid hPe
    have Hdot : Hid (∀ h : P < L.length, L[P] = 46) := by subst hPe; exact fun _ => hdot
    have HLe := Lib.hid hL
    rw [← hPe] at hP
    clear hdot hL hPe
    go_wp2_with fail
    go_loop [6] (fun t6 => ∃ k : Nat, P < k ∧ k ≤ L.length ∧ t6 = .slice (some ad) k c ∧ Hid (Tm.rstrip (L.take k) = Tm.rstrip L)) (fun t6 => lenS t6)
    case atStart => exact ⟨L.length, hP, Nat.le_refl _, rfl, by rw [Hid, List.take_length]⟩
    case round =>
      obtain ⟨k, hk0, hk1, rfl, HK⟩ := hrel
      obtain ⟨j, rfl⟩ : ∃ j, k = j + 1 := ⟨k - 1, by omega⟩
      have hlt : j < L.length := by omega
      have hc1 : w3.cell? (ad.add j) = some (.int .u8 (L[j].toNat : Int)) := HC.out j _ (by simp [Lib.byteCells, List.getElem?_eq_getElem hlt])
      by_cases h48 : L[j] = 48
      · have hPj : P < j := by
          rcases Nat.lt_or_ge P j with h1 | h1
          · exact h1
          · obtain rfl : j = P := by omega
            rw [Hdot.out hlt] at h48; exact absurd h48 (by decide)
        have hc2 : w3.cell? (ad.add j) = some (.int .u8 48) := by rw [hc1, h48]; rfl
        have H48 := Lib.hid h48
        clear hc1 h48
        go_wp2_with fail
        exact ⟨⟨j, hPj, by omega, rfl, by rw [Hid, ← Tm.rstrip_cut L j hlt H48.out]; exact HK.out⟩, by simp [lenS]⟩
      · have hc2 : ((L[j].toNat : Int) == 48) = false := by
          simp only [beq_eq_false_iff_ne]
          intro e
          exact h48 (UInt8.toNat_inj.1 (by simpa using (show L[j].toNat = 48 by omega)))
        have h48' := Lib.hid h48
        obtain ⟨x, hx⟩ : ∃ x : Int, x = (L[j].toNat : Int) := ⟨_, rfl⟩
        rw [← hx] at hc1 hc2
        clear hx h48
        have Hr' : Hid (∃ B A c', Value.slice (some ad) (j + 1) c = .slice A (L.take (j + 1)).length c' ∧ Reads w3 B 1 A (L.take (j + 1)).length (Lib.byteCells (L.take (j + 1)))) := by
          have hl : (L.take (j + 1)).length = j + 1 := by simp; omega
          rw [hl]
          refine ⟨w3.heap.size, some ad, c, rfl, by rw [Lib.byteCells_length, hl]; omega, fun _ => ⟨ad, rfl, by assumption, fun i v hi => HC.out i v ?_⟩⟩
          have hmap : Lib.byteCells (L.take (j + 1)) = (Lib.byteCells L).take (j + 1) := by simp [Lib.byteCells, List.map_take]
          rw [hmap, List.getElem?_take] at hi
          split at hi
          · exact hi
          · cases hi
        have hlt2 : (L.take (j + 1)).length ≤ 200 := by rw [List.length_take]; omega
        go_wp2_with (refine wpList_tostr rfl (.tmp 41) 25 9 5 rfl Tryd.underlying25 Tryd.underlying5 Tryd.underlying9 (.slice (some ad) (j + 1) c) rfl _ Hr'.out ?_)
        go_ret2
        refine ⟨?_, B3.out.below (appB_nil _ _) (Nat.le_refl _)⟩
        rw [Hl.out, ← str_Z, ← HK.out, Tm.rstrip_end L j hlt h48'.out]
        rfl
  · obtain rfl : u = 0 := by omega
    have Hl : Hid (Tm.long y m d s 0 = Tm.txt y m d s 4 ++ [90]) := rfl
    go_enter Tryd.func23, Tryd.ntmps23
    go_wp2_with fail
    refine (written_any t y m d s 4 _ h0 h1 h.out hs.out (.inr rfl)).mono ?_
    rintro e w1 ⟨v1, rfl, A1⟩
    have B1 := Lib.hid A1
    clear A1
    go_wp2_with (refine wpList_tostr rfl (.tmp 41) 25 9 5 rfl Tryd.underlying25 Tryd.underlying5 Tryd.underlying9 v1 rfl _ (own_str B1.out.own) ?_)
    go_ret2
    exact ⟨by rw [Hl.out, ← str_Z]; rfl, B1.out.below (appB_nil _ _) (Nat.le_refl _)⟩
end Go.Proofs.YtehdbceemdpbaaaDoor
