/- The walk of the reference's digits of 128. -/
import Derived.Test.YtehdbceemdpbaaaDoorPutW
import Derived.Test.YtehdbceemdpbaaaDoorNumR
import Derived.Test.YtehdbceemdpbaaaDoorTimeW2
namespace Go.Proofs.YtehdbceemdpbaaaDoor
open Go Go.RowKit

theorem own_keep {w w' : World} {base : Nat} {v : Value} {l : List UInt8} (h : w.ownsRow base 5 1 v l.length (Lib.byteCells l)) (hg : w.grownBy w' none) : w'.ownsRow base 5 1 v l.length (Lib.byteCells l) :=
  h.kept hg (by cases v.ownBlock <;> simp)
/-- append of a row of bytes to a row of the call's own. -/
theorem wpList_cat {P : Program} {ops : Array Oper} {rest : List Oper} {o : Oper} {a : Act} {Q : Exit → Act → World → Prop} {w1 : World} (hgd : o.guard = none) (s x : Operand) (t : TypeId)
    (ho : o.op = .call { callee := .builtin .append, args := #[s, x], argTypes := #[t, t] }) (base : Nat) (i : TypeInfo) (ht : P.underlying t = some (.slice 5)) (hi : P.info? 5 = some i) (hz : i.zero = some (.int .u8 0))
    (hsize : i.size = 1) (hby : i.bytes = 1) (v : Value) (l : List UInt8) (hs : a.eval s = v) (hown : w1.ownsRow base 5 1 v l.length (Lib.byteCells l))
    (vx : Value) (l2 : List UInt8) (hx : a.eval x = vx) (hr : ∃ B A c, vx = .slice A l2.length c ∧ Reads w1 B 1 A l2.length (Lib.byteCells l2)) (hl : l.length + l2.length ≤ 100000000) (hbase : base ≤ w1.heap.size)
    (h : ∀ v' w', AppB base w1 w' v v' (l ++ l2) → wpList P ops Q rest (a.put o.dst v') w') : wpList P ops Q (o :: rest) a w1 := by
  obtain ⟨B, A, c, rfl, hr⟩ := hr
  refine wpList_append_any _ hgd s x t ho base 5 i _ 1 1 ht hi hz hsize hby rfl (by omega) v l.length (Lib.byteCells l) hs hown B A l2.length c (Lib.byteCells l2) hx hr (by intro u hu; obtain ⟨c, _, rfl⟩ := List.mem_map.1 hu; rfl) (by simp only [maxLen]; omega) (by omega) hbase (fun v' w' h1 h2 h3 => h v' w' ⟨?_, h2, ?_⟩)
  · rw [Lib.byteCells_append, List.length_append]; exact h1
  · intro g hg
    rcases h3 with h3 | h3
    · exact .inl (by rw [← h3]; exact hg)
    · rw [h3] at hg; injection hg with hg; subst hg; exact .inr (Nat.le_refl _)
theorem own_one (w : World) (base : Nat) (n : Int) (c : UInt8) (hc : n = (c.toNat : Int)) (hb : base ≤ w.heap.size) : (w.alloc (.cells #[.int .u8 n] 5)).ownsRow base 5 1 (.slice (some ⟨w.heap.size, 0, none⟩) 1 1) (List.length [c]) (Lib.byteCells [c]) := by
  subst hc
  exact World.ownsRow_lit w #[.int .u8 (c.toNat : Int)] 1 hb (by decide) rfl
set_option maxHeartbeats 4000000 in
set_option maxRecDepth 100000 in
theorem refbase_any (n : Nat) (w : World) (hn : (n : Int) ≤ 18446744073709551615) :
    Calls Tryd.prog 51 #[.int .u64 n] w fun e w' => ∃ v, e = .returned v ∧ w'.ownsRow w.heap.size 5 1 v (Od.b128 n).length (Lib.byteCells (Od.b128 n)) ∧ Below w.heap.size w w' := by
  obtain ⟨i0, hi0, hz0, hz1, hz2⟩ := info_parts info_u8
  have hc0 : ((n % 128 : Nat) : Int) = ((UInt8.ofNat (n % 128)).toNat : Int) := by rw [UInt8.toNat_ofNat']; omega
  have hown0 := own_one w w.heap.size ((n % 128 : Nat) : Int) _ hc0 (Nat.le_refl _)
  have hbel0 : Below w.heap.size w (w.alloc (.cells #[.int .u8 ((n % 128 : Nat) : Int)] 5)) := (Below.refl _ w).alloc (Nat.le_refl _) _
  rw [show ((n % 128 : Nat) : Int) = (n : Int) % 128 by omega] at hown0 hbel0
  have Hown0 := Lib.hid hown0
  have Hbel0 := Lib.hid hbel0
  clear hown0 hbel0 hc0
  have H128 : Hid (n / 128 < 128 ^ 10) := by
    have h1 : (128 : Nat) ^ 10 = 1180591620717411303424 := by decide
    show _ < _
    omega
  go_enter Tryd.func51, Tryd.ntmps51
  go_wp2_with fail
  go_loopw [0, 3] (fun t0 t3 wr => ∃ (m f : Nat) (out : List UInt8) (v : Value), v = t3 ∧ t0 = .int .u64 m ∧ (m : Int) ≤ 18446744073709551615 ∧ out.length + f ≤ 11 ∧ Hid (m < 128 ^ f ∧ wr.ownsRow w.heap.size 5 1 v out.length (Lib.byteCells out) ∧ Below w.heap.size w wr ∧ Od.b128 n = Od.hiF f m ++ out)) (fun t0 _ _ => (intOf t0).toNat)
  case atStart => exact ⟨n / 128, 10, [UInt8.ofNat (n % 128)], _, rfl, by go_num, by omega, by simp, H128.out, Hown0.out, Hbel0.out, rfl⟩
  case round =>
    obtain ⟨m, f, out, v, rfl, rfl, hm, hof, HA⟩ := hrel
    have hz := HA.out.2.2.1.size
    obtain ⟨A, c, rfl, hr⟩ := reads_own HA.out.2.1
    clear hr
    by_cases hm0 : 0 < m
    · obtain ⟨f', rfl⟩ : ∃ f', f = f' + 1 := ⟨f - 1, by
        have h1 := HA.out.1
        rcases Nat.eq_zero_or_pos f with h0 | h0
        · subst h0; simp at h1; omega
        · omega⟩
      have hc1 : (m : Int) % 128 + 128 = ((UInt8.ofNat (m % 128 + 128)).toNat : Int) := by rw [UInt8.toNat_ofNat']; omega
      have Hc1 := Lib.hid hc1
      clear hc1
      have Hfin : Hid (m / 128 < 128 ^ f' ∧ Od.b128 n = Od.hiF f' (m / 128) ++ ([UInt8.ofNat (m % 128 + 128)] ++ out)) := by
        refine ⟨?_, ?_⟩
        · have := HA.out.1; rw [Nat.pow_succ] at this; omega
        · rw [HA.out.2.2.2]; simp only [Od.hiF]; rw [if_neg (by omega)]; simp
      go_wp2_with (first
        | (refine wpList_push rfl (.tmp 15) (.tmp 20) 25 rfl w.heap.size i0 Tryd.underlying25 hi0 hz0 hz1 hz2 _ [] rfl (appB_nil _ _) _ (UInt8.ofNat (m % 128 + 128)) (Hc1.out) 1 rfl (by simp) hz ?_; intro v2 w2 A2; have Hgr := Lib.hid A2.grown; have hz2' := A2.grown.size; have HA2 := Lib.hid A2; clear A2)
        | (refine wpList_cat rfl (.tmp 22) (.tmp 23) 25 rfl w.heap.size i0 Tryd.underlying25 hi0 hz0 hz1 hz2 _ _ rfl HA2.out.own _ out rfl (own_str (own_keep HA.out.2.1 Hgr.out)) (by simp; omega) (by omega) ?_; intro v3 w3 A3))
      go_roundw
      case rel => exact ⟨m / 128, f', _, v3, rfl, by go_num, by omega, by simp; omega, Hfin.out.1, A3.own, HA.out.2.2.1.trans (((HA2.out.trans A3).below (appB_nil _ _) hz).mono (Nat.le_refl _)), Hfin.out.2⟩
      case measure => simp [intOf]; omega
    · obtain rfl : m = 0 := by omega
      have Hfin : Hid (Od.b128 n = out) := by
        show _ = _; rw [HA.out.2.2.2]; cases f <;> simp [Od.hiF]
      go_wp2_with fail
      go_ret
      exact ⟨_, rfl, by rw [Hfin.out]; exact HA.out.2.1, HA.out.2.2.1⟩
end Go.Proofs.YtehdbceemdpbaaaDoor
