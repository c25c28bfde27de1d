/- The walk of the reference's Fold, and of the statement that texts are folded. -/
import Derived.Test.YtehdbceemdpbaaaDoorFoldW
import Derived.Test.YtehdbceemdpbaaaDoorTimeW2
namespace Go.Proofs.YtehdbceemdpbaaaDoor
open Go Go.RowKit

theorem reads_take {w : World} {B : Nat} {A : Option Addr} {l : List UInt8} {n : Nat} (h : Reads w B 1 A l.length (Lib.byteCells l)) (hn : n ≤ l.length) : Reads w B 1 A (l.take n).length (Lib.byteCells (l.take n)) := by
  have hl : (l.take n).length = n := by simp; omega
  rw [hl]
  refine ⟨by rw [Lib.byteCells_length, hl]; omega, fun h0 => ?_⟩
  obtain ⟨ad, hA, hb, hc⟩ := h.2 (by omega)
  refine ⟨ad, hA, hb, fun i v hi => hc i v ?_⟩
  have hmap : Lib.byteCells (l.take n) = (Lib.byteCells l).take n := by simp [Lib.byteCells, List.map_take]
  rw [hmap, List.getElem?_take] at hi
  split at hi
  · exact hi
  · cases hi
namespace Fd
theorem stepR_ne {out : List UInt8} {c : UInt8} (h : c ≠ 32) : stepR out c = out ++ [low c] := by
  unfold stepR; rw [if_neg (fun e => low_ne c h e.1)]
theorem stepR_nil : stepR [] 32 = [] := by decide
theorem stepR_gap {out : List UInt8} (h : out.getLast? = some 32) : stepR out 32 = out := by
  unfold stepR; rw [if_pos ⟨low_32, .inr h⟩]
theorem stepR_blank {out : List UInt8} (h0 : out ≠ []) (h : out.getLast? ≠ some 32) : stepR out 32 = out ++ [32] := by
  unfold stepR; rw [if_neg]
  · rw [low_32]
  · rintro ⟨_, e | e⟩
    · exact h0 e
    · exact h e
theorem low_id {c : UInt8} (h : c.toNat < 65 ∨ 90 < c.toNat) : low c = c := by unfold low; rw [if_neg (by omega)]
theorem low_cap {c : UInt8} (h : 65 ≤ c.toNat ∧ c.toNat ≤ 90) : (low c).toNat = c.toNat + 32 := by
  unfold low; rw [if_pos h, UInt8.toNat_add]; simp; omega
theorem last_at {out : List UInt8} {j : Nat} (h : out.length = j + 1) : out.getLast? = some (out[j]'(by omega)) := by
  have e : out.length - 1 = j := by omega
  rw [List.getLast?_eq_getElem?, e, List.getElem?_eq_getElem (by omega)]
theorem fold_snoc (s : ByteArray) (k : Nat) (h : k < s.size) : (s.data.toList.take (k + 1)).foldl stepR [] = stepR ((s.data.toList.take k).foldl stepR []) s[k] := by
  have hl : k < s.data.toList.length := h
  rw [List.take_succ_eq_append_getElem hl, List.foldl_append]
  rfl
end Fd
theorem appB_start (base : Nat) (w : World) : AppB base w w (.slice none 0 0) (.slice none 0 0) [] := ⟨appB_nil _ _, World.grownBy.refl _ _, fun g hg => by cases hg⟩
set_option maxHeartbeats 4000000 in
set_option maxRecDepth 1000000 in
theorem reffold_any (s : ByteArray) (w : World) (hs : s.size ≤ 1000000) :
    Calls Tryd.prog 16 #[.string s] w fun e w' => e = .returned (.string (Fd.fold s)) ∧ Below w.heap.size w w' := by
  obtain ⟨i0, hi0, hz0, hz1, hz2⟩ := info_parts info_u8
  by_cases hok : Utf.ok s = true
  · have Hok := Lib.hid hok
    have Hfold : Hid (Fd.fold s = ⟨(Fd.foldL s.data.toList).toArray⟩) := by show _ = _; unfold Fd.fold; rw [if_pos hok]
    clear hok
    go_enter Tryd.func16, Tryd.ntmps16
    go_wp2_with fail
    refine (refutf8_any s _ hs).mono ?_
    rintro e w1 ⟨rfl, rfl⟩
    rw [Hok.out]
    go_wp2_with fail
    go_loopw [3, 4] (fun t3 t4 wr => ∃ (k : Nat) (out : List UInt8) (v : Value), v = t3 ∧ t4 = .int .i64 k ∧ k ≤ s.size ∧ out.length ≤ k ∧ Hid (AppB w.heap.size w wr (.slice none 0 0) v out ∧ out = (s.data.toList.take k).foldl Fd.stepR [])) (fun _ t4 _ => s.size - (intOf t4).toNat)
    case atStart => exact ⟨0, [], _, rfl, rfl, Nat.zero_le _, Nat.le_refl _, appB_start _ _, rfl⟩
    case round =>
      obtain ⟨k, out, v, rfl, rfl, hk, hol, HA⟩ := hrel
      have hz := HA.out.1.grown.size
      obtain ⟨A, c, rfl, hr⟩ := reads_own HA.out.1.own
      have HR := Lib.hid hr
      clear hr
      by_cases hp : k < s.size
      · have Hst : Hid (Fd.stepR out s[k] = (s.data.toList.take (k + 1)).foldl Fd.stepR []) := by
          show _ = _; rw [Fd.fold_snoc s k hp, ← HA.out.2]
        by_cases hcap : 65 ≤ s[k].toNat ∧ s[k].toNat ≤ 90
        · have hlow := Fd.low_cap hcap
          have hne : ((s[k].toNat : Int) + 32 == 32) = false := by simp; omega
          have Hst2 : Hid (out ++ [Fd.low s[k]] = (s.data.toList.take (k + 1)).foldl Fd.stepR []) := by
            show _ = _; rw [← Hst.out, Fd.stepR_ne (by intro e; rw [e] at hcap; revert hcap; decide)]
          go_wp2_with fail
          refine (between_yes _ _ _ _ (by omega)).mono ?_
          rintro e w2 ⟨rfl, rfl⟩
          go_wp2_with (refine wpList_push rfl (.tmp 40) (.tmp 42) 25 rfl w.heap.size i0 Tryd.underlying25 hi0 hz0 hz1 hz2 _ out rfl HA.out.1.own _ (Fd.low s[k]) (by omega) 1 rfl (by omega) hz ?_; intro v2 w2 A2)
          go_roundw
          case rel => exact ⟨k + 1, _, v2, rfl, by go_num, by omega, by simp; omega, HA.out.1.trans A2, Hst2.out⟩
          case measure => simp [intOf]; omega
        · by_cases h32 : s[k].toNat = 32
          · have h32' : s[k] = 32 := UInt8.toNat_inj.1 (by rw [h32]; rfl)
            have hb32 : ((s[k].toNat : Int) == 32) = true := by simp; omega
            have Hst3 : Hid (Fd.stepR out 32 = (s.data.toList.take (k + 1)).foldl Fd.stepR []) := by show _ = _; rw [← Hst.out, h32']
            clear h32' hcap
            by_cases hon : out = []
            · subst hon
              have Hst4 : Hid (([] : List UInt8) = (s.data.toList.take (k + 1)).foldl Fd.stepR []) := by show _ = _; rw [← Hst3.out, Fd.stepR_nil]
              simp only [List.length_nil] at *
              go_wp2_with fail
              refine (between_no _ _ _ _ (by omega)).mono ?_
              rintro e w2 ⟨rfl, rfl⟩
              go_wp2_with fail
              go_roundw
              case rel => exact ⟨k + 1, [], _, rfl, by go_num, by omega, by simp, HA.out.1, Hst4.out⟩
              case measure => simp [intOf]; omega
            · obtain ⟨j, hj⟩ : ∃ j, out.length = j + 1 := ⟨out.length - 1, by have := List.length_pos_iff.2 hon; omega⟩
              obtain ⟨ad, rfl, _, hcl⟩ := HR.out.2 (by omega)
              have hlast := Fd.last_at hj
              have hc1 : wr.cell? (ad.add j) = some (.int .u8 ((out[j]'(by omega)).toNat : Int)) := hcl j _ (by simp [Lib.byteCells, List.getElem?_eq_getElem (show j < out.length by omega)])
              have Hj := Lib.hid hj
              obtain ⟨x, hx⟩ : ∃ x : Int, x = ((out[j]'(by omega)).toNat : Int) := ⟨_, rfl⟩
              rw [← hx] at hc1
              have HA1 := HA.out.1
              rw [hj] at HA1
              have HA2 := Lib.hid HA1
              have hjk : j + 1 ≤ k := by omega
              have hj0 : ((j : Int) + 1 == 0) = false := by simp; omega
              rw [hj]
              by_cases hl : out[j]'(by omega) = 32
              · have hx2 : (x == 32) = true := by rw [hx, hl]; rfl
                have Hst4 : Hid (out = (s.data.toList.take (k + 1)).foldl Fd.stepR []) := by show _ = _; rw [← Hst3.out, Fd.stepR_gap (by rw [hlast, hl])]
                clear hcl hlast hj hx hl HA1
                go_wp2_with fail
                refine (between_no _ _ _ _ (by omega)).mono ?_
                rintro e w2 ⟨rfl, rfl⟩
                go_wp2_with fail
                go_roundw
                case rel => exact ⟨k + 1, out, _, rfl, by go_num, by omega, by omega, HA2.out, Hst4.out⟩
                case measure => simp [intOf]; omega
              · have hx2 : (x == 32) = false := by
                  rw [hx, beq_eq_false_iff_ne]
                  intro e; exact hl (UInt8.toNat_inj.1 (by simpa using (show (out[j]'(by omega)).toNat = 32 by omega)))
                have Hst4 : Hid (out ++ [32] = (s.data.toList.take (k + 1)).foldl Fd.stepR []) := by
                  show _ = _; rw [← Hst3.out, Fd.stepR_blank hon (by rw [hlast]; intro e; exact hl (Option.some.inj e))]
                clear hcl hlast hj hx hl HA1
                go_wp2_with fail
                refine (between_no _ _ _ _ (by omega)).mono ?_
                rintro e w2 ⟨rfl, rfl⟩
                go_wp2_with (refine wpList_push rfl (.tmp 40) (.tmp 42) 25 rfl w.heap.size i0 Tryd.underlying25 hi0 hz0 hz1 hz2 _ out rfl HA2.out.own _ 32 (by rw [show (32 : UInt8).toNat = 32 from rfl]; omega) 1 rfl (by omega) hz ?_; intro v2 w2 A2)
                go_roundw
                case rel => exact ⟨k + 1, _, v2, rfl, by go_num, by omega, by simp; omega, HA2.out.trans A2, Hst4.out⟩
                case measure => simp [intOf]; omega
          · have hlt8 : s[k].toNat < 256 := s[k].toNat_lt
            have hb32 : ((s[k].toNat : Int) == 32) = false := by simp; omega
            have Hcc : Hid ((s[k].toNat : Int) < 65 ∨ 90 < (s[k].toNat : Int)) := by show _ ∨ _; omega
            have Hst2 : Hid (out ++ [s[k]] = (s.data.toList.take (k + 1)).foldl Fd.stepR []) := by
              show _ = _; rw [← Hst.out, Fd.stepR_ne (by intro e; rw [e] at h32; exact h32 rfl), Fd.low_id (by omega)]
            clear hcap h32
            go_wp2_with fail
            refine (between_no _ _ _ _ (by have := Hcc.out; omega)).mono ?_
            rintro e w2 ⟨rfl, rfl⟩
            go_wp2_with (refine wpList_push rfl (.tmp 40) (.tmp 42) 25 rfl w.heap.size i0 Tryd.underlying25 hi0 hz0 hz1 hz2 _ out rfl HA.out.1.own _ s[k] rfl 1 rfl (by omega) hz ?_; intro v2 w2 A2)
            go_roundw
            case rel => exact ⟨k + 1, _, v2, rfl, by go_num, by omega, by simp; omega, HA.out.1.trans A2, Hst2.out⟩
            case measure => simp [intOf]; omega
      · have hfull : Hid (Fd.foldL s.data.toList = Fd.trimR out) := by
          have hk2 : s.data.toList.take k = s.data.toList := List.take_of_length_le (by have : s.size = s.data.toList.length := Lib.size_eq s; omega)
          show _ = _; unfold Fd.foldL; rw [HA.out.2, hk2]
        have Hb := Lib.hid (HA.out.1.below (appB_nil _ _) (Nat.le_refl _))
        by_cases hon : out = []
        · subst hon
          have hr0 := HR.out
          have Hfin : Hid (Fd.fold s = ⟨#[]⟩) := by show _ = _; rw [Hfold.out, hfull.out]; rfl
          simp only [List.length_nil] at *
          go_wp2_with (refine wpList_tostr rfl (.tmp 61) 25 9 5 rfl Tryd.underlying25 Tryd.underlying5 Tryd.underlying9 (.slice A 0 c) rfl [] ⟨_, A, c, rfl, hr0⟩ ?_)
          go_ret
          exact ⟨by rw [Hfin.out]; rfl, Hb.out⟩
        · obtain ⟨j, hj⟩ : ∃ j, out.length = j + 1 := ⟨out.length - 1, by have := List.length_pos_iff.2 hon; omega⟩
          obtain ⟨ad, rfl, _, hcl⟩ := HR.out.2 (by omega)
          have hlast := Fd.last_at hj
          have hc1 : wr.cell? (ad.add j) = some (.int .u8 ((out[j]'(by omega)).toNat : Int)) := hcl j _ (by simp [Lib.byteCells, List.getElem?_eq_getElem (show j < out.length by omega)])
          have hlc : out.length ≤ c := by
            rcases HA.out.1.own.2 with ⟨h1, h2⟩ | ⟨g, cap, cur, h1, _, _, h2, _⟩
            · cases h1
            · injection h1 with _ _ h3; omega
          obtain ⟨x, hx⟩ : ∃ x : Int, x = ((out[j]'(by omega)).toNat : Int) := ⟨_, rfl⟩
          rw [← hx] at hc1
          have hjk : j + 1 ≤ k := by omega
          by_cases hl : out[j]'(by omega) = 32
          · have hx2 : (x == 32) = true := by rw [hx, hl]; rfl
            have Hfin : Hid (Fd.fold s = ⟨(out.take j).toArray⟩) := by
              show _ = _; rw [Hfold.out, hfull.out]; unfold Fd.trimR; rw [if_pos (by rw [hlast, hl]), List.dropLast_eq_take, hj]; rfl
            have hr2 : Hid (∃ B A' c', Value.slice (some ad) j c = .slice A' (out.take j).length c' ∧ Reads wr B 1 A' (out.take j).length (Lib.byteCells (out.take j))) := by
              have hlj : (out.take j).length = j := by simp; omega
              have := reads_take HR.out (n := j) (by omega)
              exact ⟨_, some ad, c, by rw [hlj], this⟩
            have hjc : j + 1 ≤ c := by omega
            rw [hj]
            clear hcl hlast hj hx hl hlc
            go_wp2_with (refine wpList_tostr rfl (.tmp 61) 25 9 5 rfl Tryd.underlying25 Tryd.underlying5 Tryd.underlying9 (.slice (some ad) j c) rfl _ hr2.out ?_)
            go_ret
            exact ⟨by rw [Hfin.out]; rfl, Hb.out⟩
          · have hx2 : (x == 32) = false := by
              rw [hx, beq_eq_false_iff_ne]
              intro e; exact hl (UInt8.toNat_inj.1 (by simpa using (show (out[j]'(by omega)).toNat = 32 by omega)))
            have Hfin : Hid (Fd.fold s = ⟨out.toArray⟩) := by
              show _ = _; rw [Hfold.out, hfull.out]; unfold Fd.trimR; rw [if_neg (by rw [hlast]; intro e; exact hl (Option.some.inj e))]
            have hr2 : Hid (∃ B A' c', Value.slice (some ad) (j + 1) c = .slice A' out.length c' ∧ Reads wr B 1 A' out.length (Lib.byteCells out)) := ⟨_, some ad, c, by rw [hj], HR.out⟩
            rw [hj]
            clear hcl hlast hj hx hl hlc
            go_wp2_with (refine wpList_tostr rfl (.tmp 61) 25 9 5 rfl Tryd.underlying25 Tryd.underlying5 Tryd.underlying9 (.slice (some ad) (j + 1) c) rfl _ hr2.out ?_)
            go_ret
            exact ⟨by rw [Hfin.out]; rfl, Hb.out⟩
  · have hok2 : Utf.ok s = false := by simpa using hok
    have Hok := Lib.hid hok2
    have Hfold : Hid (Fd.fold s = s) := by show _ = _; unfold Fd.fold; rw [if_neg hok]
    clear hok hok2
    go_enter Tryd.func16, Tryd.ntmps16
    go_wp2_with fail
    refine (refutf8_any s _ hs).mono ?_
    rintro e w1 ⟨rfl, rfl⟩
    rw [Hok.out]
    go_wp2_with fail
    go_ret
    exact ⟨by rw [Hfold.out]; rfl, Below.refl _ _⟩
end Go.Proofs.YtehdbceemdpbaaaDoor
