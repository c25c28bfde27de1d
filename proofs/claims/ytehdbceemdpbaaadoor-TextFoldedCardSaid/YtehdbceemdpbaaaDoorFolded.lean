/- The walk of the statement that folded is folded. -/
import Derived.Test.YtehdbceemdpbaaaDoorWide
import Derived.Test.YtehdbceemdpbaaaDoorFolds
import Derived.Test.YtehdbceemdpbaaaDoorAmong
namespace Go.Proofs.YtehdbceemdpbaaaDoor
open Go Go.RowKit

namespace Fd
theorem trim_len (r : List UInt8) : (trimR r).length ≤ r.length := by unfold trimR; split <;> simp
theorem fold_size (s : ByteArray) : (fold s).size ≤ s.size := by
  unfold fold
  split
  · have h1 := foldl_length s.data.toList []
    have h2 := trim_len (s.data.toList.foldl stepR [])
    have h3 : s.size = s.data.toList.length := Lib.size_eq s
    simp only [List.length_nil] at h1
    show (foldL s.data.toList).length ≤ _
    unfold foldL; omega
  · exact Nat.le_refl _
theorem Wd.snoc {s : ByteArray} {k : Nat} {w d : List UInt8} (h : Wd (s.data.toList.take k) w) (hk : k < s.size) (hd : Wd [s[k]] d) : Wd (s.data.toList.take (k + 1)) (w ++ d) := by
  have hl : k < s.data.toList.length := hk
  rw [List.take_succ_eq_append_getElem hl]
  exact h.app hd
end Fd
/-- What the loop has made: the text so far, with capitals and blanks more. -/
structure WI (s : ByteArray) (w wr : World) (k : Nat) (v : Value) (l : List UInt8) : Prop where
  app : AppB w.heap.size w wr (.slice none 0 0) v l
  wd : Fd.Wd (s.data.toList.take k) l
set_option maxHeartbeats 4000000 in
set_option maxRecDepth 100000 in
theorem textFolded_walk (s : ByteArray) (more : Int) (w : World) (hs : s.size ≤ 9223372036854775807) (m0 : -9223372036854775808 ≤ more) (m1 : more ≤ 9223372036854775807) (hT : Lib.Utf8Tabs 0 1 w) :
    Calls Tryd.prog 6 #[.string s, .int .i64 more] w fun e w' => e = .returned (.bool true) ∧ Below w.heap.size w w' := by
  have HT := Lib.hid hT
  clear hT
  by_cases hl : 2000 < s.size
  · go_enter Tryd.func6, Tryd.ntmps6
    go_wp2_with fail
    refine (long_yes' s _ hs hl).mono ?_
    rintro _ w1 ⟨rfl, rfl⟩
    go_wp2_with fail
    refine (known_any _ HT.out).mono ?_
    rintro _ w7 ⟨rfl, hb⟩
    go_wp2_with fail
    go_ret
    exact ⟨rfl, hb⟩
  · obtain ⟨i0, hi0, hz0, hz1, hz2⟩ := info_parts info_u8
    have hfs := Fd.fold_size s
    obtain ⟨f, hf⟩ : ∃ f, f = Fd.fold s := ⟨_, rfl⟩
    have Hf2 : Hid (Fd.fold f = f) := by show _ = _; rw [hf, Fd.fold_twice]
    rw [← hf] at hfs
    have Hf := Lib.hid hf
    clear hf
    go_enter Tryd.func6, Tryd.ntmps6
    go_wp2_with fail
    refine (long_no' s _ (by omega)).mono ?_
    rintro _ w1 ⟨rfl, rfl⟩
    go_wp2_with fail
    refine (fold_any s _ (by omega) HT.out).mono ?_
    rintro _ w1 ⟨rfl, hb⟩
    rw [← Hf.out]
    have Hb1 := Lib.hid hb
    clear hb
    go_wp2_with fail
    refine (fold_any f _ (by omega) (tabs_iter HT.out Hb1.out)).mono ?_
    rintro _ w2 ⟨rfl, hb⟩
    rw [Hf2.out]
    have Hb2 := Lib.hid (Hb1.out.trans (hb.mono Hb1.out.size))
    clear hb Hb1
    go_wp2_with fail
    refine (refutf8_any s _ (by omega)).mono ?_
    rintro _ w3 ⟨rfl, rfl⟩
    cases hok : Utf.ok s with
    | false =>
      obtain rfl : f = s := by rw [Hf.out]; unfold Fd.fold; rw [if_neg (by rw [hok]; decide)]
      clear hok
      go_wp2_with fail
      refine (known_any _ (tabs_iter HT.out Hb2.out)).mono ?_
      rintro _ w7 ⟨rfl, hb⟩
      have Hb7 := Lib.hid (Hb2.out.trans (hb.mono Hb2.out.size))
      clear hb Hb2
      go_wp2_with fail
      go_ret
      exact ⟨rfl, Hb7.out⟩
    | true =>
      have Hok := Lib.hid hok
      have hz2' := Hb2.out.size
      clear hok
      obtain ⟨wo, hwo⟩ : ∃ wo : World, wo = w2 := ⟨_, rfl⟩
      have Hbo : Hid (Below w.heap.size w wo) := by show Below _ _ _; rw [hwo]; exact Hb2.out
      rw [← hwo]
      rw [← hwo] at hz2'
      clear hwo Hb2
      go_wp2_with fail
      go_loopw [6, 7] (fun t6 t7 wr => ∃ (k : Nat) (v : Value) (l : List UInt8), v = t6 ∧ t7 = .int .i64 k ∧ k ≤ s.size ∧ l.length ≤ 5 * k ∧ Hid (WI s wo wr k v l)) (fun _ t7 _ => s.size - (intOf t7).toNat)
      case atStart => exact ⟨0, _, [], rfl, rfl, Nat.zero_le _, by simp, appB_start _ _, by simpa using Fd.Wd.nil⟩
      case round =>
        obtain ⟨k, v, l, rfl, rfl, hk, hlen, HI⟩ := hrel
        have hz := HI.out.app.grown.size
        by_cases hlt : k < s.size
        · have hc8 : s[k].toNat < 256 := s[k].toNat_lt
          have hkm : 0 ≤ (k : Int) := by omega
          by_cases hlow : 97 ≤ s[k].toNat ∧ s[k].toNat ≤ 122
          · obtain ⟨d, hd⟩ : ∃ d : UInt8, d.toNat = s[k].toNat - 32 := ⟨UInt8.ofNat (s[k].toNat - 32), by rw [UInt8.toNat_ofNat']; omega⟩
            have hne : s[k] ≠ 32 := by intro e; rw [e] at hlow; revert hlow; decide
            have Hw1 : Hid (Fd.Wd (s.data.toList.take (k + 1)) (l ++ [d])) := HI.out.wd.snoc hlt (.one hne (.inr ⟨hlow.1, hlow.2, hd⟩))
            have Hw2 : Hid (Fd.Wd (s.data.toList.take (k + 1)) (l ++ [s[k]])) := HI.out.wd.snoc hlt (.one hne (.inl rfl))
            have hdi : (s[k].toNat : Int) - 32 = (d.toNat : Int) := by omega
            obtain ⟨hlow0, hlow1⟩ := hlow
            have n32 : ((s[k].toNat : Int) == 32) = false := by simp; omega
            have n33 : ((s[k].toNat : Int) - 32 == 32) = false := by simp; omega
            have d32 : ((d.toNat : Int) == 32) = false := by simp; omega
            have Hdi := Lib.hid hdi
            have Hd := Lib.hid hd
            clear hd hne hdi
            go_wp2_with fail
            refine (among_any more 3 _ m0 m1 (by omega) (by omega)).mono ?_
            rintro _ w1 ⟨u, rfl, hu0, hu1, rfl⟩
            by_cases hpar : ((k : Int) + u) % 2 = 0
            · go_wp2_with (refine wpList_push rfl (.tmp 53) (.tmp 55) 25 rfl wo.heap.size i0 Tryd.underlying25 hi0 hz0 hz1 hz2 v l rfl HI.out.app.own _ d Hdi.out 1 rfl (by omega) hz ?_; intro v2 w2 A2)
              have Hw := Hw1
              have A3 : Hid (WI s wo w2 (k + 1) v2 (l ++ [d])) := ⟨HI.out.app.trans A2, Hw.out⟩
              clear A2
              obtain ⟨wn, hwn⟩ : ∃ wn : World, wn = w2 := ⟨_, rfl⟩
              rw [← hwn] at A3
              rw [← hwn]
              clear hwn
              go_wp2_with fail
              go_loop [6, 9] (fun t6 t9 => v2 = t6 ∧ t9 = .int .i64 0) (fun _ _ => 0)
              case atStart => exact ⟨rfl, rfl⟩
              case round =>
                obtain ⟨rfl, rfl⟩ := hrel
                go_wp2_with fail
                go_roundw
                case rel => exact ⟨k + 1, _, _, rfl, by go_num, by omega, by simp; omega, A3⟩
                case measure => simp [intOf]; omega
            · have hpar2 : (((k : Int) + u) % 2 == 0) = false := by simpa using hpar
              clear hpar
              go_wp2_with (refine wpList_push rfl (.tmp 53) (.tmp 55) 25 rfl wo.heap.size i0 Tryd.underlying25 hi0 hz0 hz1 hz2 v l rfl HI.out.app.own _ s[k] rfl 1 rfl (by omega) hz ?_; intro v2 w2 A2)
              have Hw := Hw2
              have A3 : Hid (WI s wo w2 (k + 1) v2 (l ++ [s[k]])) := ⟨HI.out.app.trans A2, Hw.out⟩
              clear A2
              obtain ⟨wn, hwn⟩ : ∃ wn : World, wn = w2 := ⟨_, rfl⟩
              rw [← hwn] at A3
              rw [← hwn]
              clear hwn
              go_wp2_with fail
              go_loop [6, 9] (fun t6 t9 => v2 = t6 ∧ t9 = .int .i64 0) (fun _ _ => 0)
              case atStart => exact ⟨rfl, rfl⟩
              case round =>
                obtain ⟨rfl, rfl⟩ := hrel
                go_wp2_with fail
                go_roundw
                case rel => exact ⟨k + 1, _, _, rfl, by go_num, by omega, by simp; omega, A3⟩
                case measure => simp [intOf]; omega
          · by_cases h32 : s[k].toNat = 32
            · have e32 : s[k] = 32 := UInt8.toNat_inj.1 (by rw [h32]; rfl)
              have Hw : Hid (∀ j, Fd.Wd (s.data.toList.take (k + 1)) (l ++ List.replicate (j + 1) 32)) := fun j => HI.out.wd.snoc hlt (by rw [e32]; exact .blanks j)
              have hb32 : ((s[k].toNat : Int) == 32) = true := by simp; omega
              obtain ⟨c, hc⟩ : ∃ c : Int, c = (s[k].toNat : Int) := ⟨_, rfl⟩
              have hc0 : c < 97 := by omega
              have hb := PlainAid.get_bt s
              have hk32 : PlainAid.bt s k = 32 := by rw [← hb k hlt]; omega
              clear hlow e32 hb32 hc hc0 h32 hc8
              go_wp2_with (refine wpList_push rfl (.tmp 53) (.tmp 55) 25 rfl wo.heap.size i0 Tryd.underlying25 hi0 hz0 hz1 hz2 v l rfl HI.out.app.own _ 32 rfl 1 rfl (by omega) hz ?_; intro v2 w2 A2)
              have A3 : Hid (WI s wo w2 (k + 1) v2 (l ++ List.replicate (0 + 1) 32)) := ⟨HI.out.app.trans A2, Hw.out 0⟩
              clear A2
              obtain ⟨wn, hwn⟩ : ∃ wn : World, wn = w2 := ⟨_, rfl⟩
              rw [← hwn] at A3
              rw [← hwn]
              clear hwn
              go_wp2_with fail
              go_loopw [6, 9] (fun t6 t9 wr => ∃ (j : Nat) (v' : Value), v' = t6 ∧ t9 = .int .i64 j ∧ j ≤ 4 ∧ Hid (WI s wo wr (k + 1) v' (l ++ List.replicate (j + 1) 32))) (fun _ t9 _ => 4 - (intOf t9).toNat)
              case atStart => exact ⟨0, _, rfl, rfl, by omega, A3⟩
              case round =>
                obtain ⟨j, v', rfl, rfl, hj, HJ⟩ := hrel
                have hz4 := HJ.out.app.grown.size
                go_wp2_with fail
                refine (among_any more 4 _ m0 m1 (by omega) (by omega)).mono ?_
                rintro _ w5 ⟨u, rfl, hu0, hu1, rfl⟩
                by_cases hju : (j : Int) < u
                · have Hrep : Hid ((l ++ List.replicate (j + 1) 32) ++ [32] = l ++ List.replicate (j + 1 + 1) 32) := by show _ = _; rw [List.append_assoc, ← List.replicate_succ']
                  go_wp2_with (refine wpList_push rfl (.tmp 67) (.tmp 68) 25 rfl wo.heap.size i0 Tryd.underlying25 hi0 hz0 hz1 hz2 v' _ rfl HJ.out.app.own _ 32 rfl 1 rfl (by simp; omega) hz4 ?_; intro v6 w6 A6)
                  rw [Hrep.out] at A6
                  go_roundw
                  case rel => exact ⟨j + 1, _, rfl, by go_num, by omega, HJ.out.app.trans A6, Hw.out (j + 1)⟩
                  case measure => simp [intOf]; omega
                · go_wp2_with fail
                  go_roundw
                  case rel => exact ⟨k + 1, _, _, rfl, by go_num, by omega, by simp; omega, HJ⟩
                  case measure => simp [intOf]; omega
            · have hne : s[k] ≠ 32 := by intro e; rw [e] at h32; exact h32 rfl
              have Hw : Hid (Fd.Wd (s.data.toList.take (k + 1)) (l ++ [s[k]])) := HI.out.wd.snoc hlt (.one hne (.inl rfl))
              have n32 : ((s[k].toNat : Int) == 32) = false := by simp; omega
              have hor : (s[k].toNat : Int) < 97 ∨ (97 ≤ (s[k].toNat : Int) ∧ 122 < (s[k].toNat : Int)) := by omega
              clear hne hlow h32
              rcases hor with hor | ⟨hor0, hor⟩
              all_goals
                go_wp2_with (refine wpList_push rfl (.tmp 53) (.tmp 55) 25 rfl wo.heap.size i0 Tryd.underlying25 hi0 hz0 hz1 hz2 v l rfl HI.out.app.own _ s[k] rfl 1 rfl (by omega) hz ?_; intro v2 w2 A2)
                have A3 : Hid (WI s wo w2 (k + 1) v2 (l ++ [s[k]])) := ⟨HI.out.app.trans A2, Hw.out⟩
                clear A2
                obtain ⟨wn, hwn⟩ : ∃ wn : World, wn = w2 := ⟨_, rfl⟩
                rw [← hwn] at A3
                rw [← hwn]
                clear hwn
                go_wp2_with fail
                go_loop [6, 9] (fun t6 t9 => v2 = t6 ∧ t9 = .int .i64 0) (fun _ _ => 0)
                case atStart => exact ⟨rfl, rfl⟩
                case round =>
                  obtain ⟨rfl, rfl⟩ := hrel
                  go_wp2_with fail
                  go_roundw
                  case rel => exact ⟨k + 1, _, _, rfl, by go_num, by omega, by simp; omega, A3⟩
                  case measure => simp [intOf]; omega
        · have hfull : Hid (Fd.fold ⟨(32 :: l ++ [32, 32]).toArray⟩ = f) := by
            have hk2 : s.data.toList.take k = s.data.toList := List.take_of_length_le (by have : s.size = s.data.toList.length := Lib.size_eq s; omega)
            have h1 := HI.out.wd
            rw [hk2] at h1
            show _ = _
            rw [Hf.out]; exact Fd.fold_wide Hok.out h1
          go_wp2_with (refine wpList_tostr rfl (.tmp 70) 25 9 5 rfl Tryd.underlying25 Tryd.underlying5 Tryd.underlying9 v rfl _ (own_str HI.out.app.own) ?_)
          have hcat : (⟨#[32]⟩ ++ ⟨l.toArray⟩ ++ ⟨#[32, 32]⟩ : ByteArray) = ⟨(32 :: l ++ [32, 32]).toArray⟩ := by
            have h1 := str_add [32] l
            have h2 := str_add ([32] ++ l) [32, 32]
            show ((⟨[32].toArray⟩ : ByteArray) ++ ⟨l.toArray⟩) ++ ⟨[32, 32].toArray⟩ = _
            rw [h1, h2]; rfl
          rw [hcat]
          have Hb3 := Lib.hid (Hbo.out.trans ((HI.out.app.below (appB_nil _ _) (Nat.le_refl _)).mono Hbo.out.size))
          clear hcat
          refine (fold_any _ _ (by simp [ByteArray.size]; omega) (tabs_iter HT.out Hb3.out)).mono ?_
          rintro _ w6 ⟨rfl, hb⟩
          rw [hfull.out]
          have Hb4 := Lib.hid (Hb3.out.trans (hb.mono Hb3.out.size))
          clear hb Hb3
          go_wp2_with fail
          refine (known_any _ (tabs_iter HT.out Hb4.out)).mono ?_
          rintro _ w7 ⟨rfl, hb⟩
          have Hb7 := Lib.hid (Hb4.out.trans (hb.mono Hb4.out.size))
          clear hb Hb4
          go_wp2_with fail
          go_ret
          exact ⟨rfl, Hb7.out⟩
end Go.Proofs.YtehdbceemdpbaaaDoor
