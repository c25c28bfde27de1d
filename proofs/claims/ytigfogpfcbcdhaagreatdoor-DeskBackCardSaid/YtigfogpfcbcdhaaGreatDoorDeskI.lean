/- The walk of the desk's lines: its iterator hands over the text's lines, in order. Conditions: the text is no longer than a script; the library's variables are there. -/
import Derived.Test.YtigfogpfcbcdhaaGreatDoorDeskS
import Derived.Test.YtigfogpfcbcdhaaGreatDoorDeskN
import Derived.Test.YtigfogpfcbcdhaaGreatDoorDeskE
set_option linter.unusedVariables false
set_option linter.unusedSimpArgs false
namespace Go.Proofs.YtigfogpfcbcdhaaGreatDoor
open Go Go.RowKit Go.Shelf
attribute [local go_sem] Oper.semAt_some
def mkS (l : List UInt8) : ByteArray := ⟨l.toArray⟩
def linesS (s : ByteArray) : List ByteArray := (Dk.linesL s.data.toList).map mkS
/-- What a round keeps: the box that the iterator holds, and all that lay below. -/
def KeepsState (n₀ b : Nat) (A B : World) : Prop := Below n₀ A B ∧ ∀ t v, Boxed A b t v → Boxed B b t v
theorem keepsState_t {n₀ b : Nat} {A B C : World} (h : KeepsState n₀ b A B) (k : KeepsState n₀ b B C) : KeepsState n₀ b A C := ⟨h.1.trans k.1, fun t v hv => k.2 t v (h.2 t v hv)⟩
theorem keepsState_b {n₀ b l : Nat} (W : World) (o o' : Obj) (hb : n₀ ≤ b) (hl : b < l) (h : W.heap[l]? = some o) : KeepsState n₀ b W (W.putObj l o') :=
  ⟨(Below.refl n₀ W).grown (grownBy_putObj' W l o') (by have := (Array.getElem?_eq_some_iff.1 h).1; omega) (fun k e => by cases e; omega), fun t v hv => hv.kept (grownBy_putObj' W l o') (by intro e; injection e; omega)⟩
theorem only_below {W W1 : World} (hb : Below W.heap.size W W1) (row : Option Nat) : W.grownBy W1 row := ⟨hb.os, hb.tape, hb.output, hb.size, fun k hk _ => hb.block k hk⟩
theorem keeps_below {W W1 : World} (hb : Below W.heap.size W W1) : KeepsOthers W W1 := KeepsOthers.of_grownBy (only_below hb none) (fun j o ej hj => by cases ej)
theorem linesS_cut {s : ByteArray} (h : s.data.toList ≠ []) : linesS s = mkS (Lib.cut s.data.toList [10]).1 :: linesS ⟨(Lib.cut s.data.toList [10]).2.1.toArray⟩ ∧ (Lib.cut s.data.toList [10]).2.1.length < s.size := by
  obtain ⟨h1, h2, _⟩ := Dk.cut_line h
  refine ⟨?_, h2⟩
  unfold linesS
  rw [h1]; rfl
/-- The size of the text in a cell: for the loop's measure. -/
def restAt (W : World) (b : Nat) : Nat := match W.cell? ⟨b, 0, none⟩ with | some (.string s) => s.size | _ => 0
theorem restAt_eq {W : World} {b t : Nat} {s : ByteArray} (h : Boxed W b t (.string s)) : restAt W b = s.size := by unfold restAt; rw [h.cell]
theorem lines_any (s : ByteArray) (w : World) : Calls Tryz.prog 33 #[.string s] w fun e w' => e = .returned (.func (.func 48) #[] #[.pointer (some ⟨w.heap.size, 0, none⟩)]) ∧ w' = w.alloc (.cells #[.string s] 9) := by
  go_enter Tryz.func33, Tryz.ntmps33
  go_wp2
  go_ret
  exact ⟨rfl, rfl⟩
set_option maxRecDepth 100000 in
set_option maxHeartbeats 2000000 in
theorem lines_stops (n : Nat) (hn : 1 ≤ n) (n₀ b : Nat) (s : ByteArray) (hs : s.size ≤ 2000000) (w0 w : World) (h0w : w0.heap.size = n₀) (hb0 : Below n₀ w0 w) (he : Env w0) (hnb : n₀ ≤ b) (hb : b < w.heap.size)
    (h1 : Boxed w b 9 (.string s)) :
    StateSeq Fence.wide n Tryz.prog 48 #[.pointer (some ⟨b, 0, none⟩)] (fun x : ByteArray => #[.string x]) (KeepsState n₀ b) (linesS s) w b := by
  intro l J Jx W hW hJ hJb hY h0
  have g1 : Boxed W b 9 (.string s) := (hW.block b hb).trans h1
  have hBW : Hid (Below n₀ w0 W) := hb0.trans (hW.mono (by omega))
  have HE := Lib.hid he
  subst h0w
  refine callsIn_of_wp Tryz.func48 rfl trivial ?_ rfl
  simp only [Tryz.ntmps48, List.size_toArray, List.length_cons, List.length_nil, Nat.reduceAdd, Nat.reduceSub, Array.replicate_succ, Array.replicate_zero, List.push_toArray, List.append_toArray, List.nil_append, List.cons_append]
  have HY := Lib.hid hY
  have HJ := Lib.hid hJ
  have HJb := Lib.hid hJb
  clear hY hJ hJb h1 hW hb0 he
  gi_wp2
  gi_loopw [] (fun wr => ∃ (pre : List ByteArray) (r : ByteArray), Boxed wr b 9 (.string r) ∧ Hid (J pre wr ∧ pre ++ linesS r = linesS s ∧ Below w0.heap.size w0 wr) ∧ r.size ≤ 2000000) (fun wr => restAt wr b)
  case atStart => exact ⟨[], s, g1, ⟨h0, rfl, hBW.out⟩, hs⟩
  case round =>
    clear g1 h0 hBW
    obtain ⟨pre, r, g1, HR, hr⟩ := hrel
    have c1 := g1.cell
    have f1 := g1.frozen
    have hra := Lib.hid (restAt_eq g1)
    have hlt := g1.lt
    have hge := HR.out.2.2.size
    by_cases hne : r.data.toList = []
    · have he1 : r.toList.isEmpty = true := by
        rw [Lib.toList_data, hne]; rfl
      have hlast : Hid (J (linesS s) wr) := by
        have h := HR.out.2.1
        unfold linesS at h ⊢
        rw [hne] at h
        show J _ _
        rw [← h]
        simpa [Dk.linesL, Dk.linesA] using HR.out.1
      clear hne
      gi_wp2
      go_end0
      exact ⟨⟨_, rfl⟩, .inl hlast.out⟩
    · have he1 : r.toList.isEmpty = false := by
        rw [Lib.toList_data]; simpa using hne
      obtain ⟨hc, hc2⟩ := linesS_cut hne
      obtain ⟨x, hx⟩ : ∃ x : ByteArray, x = mkS (Lib.cut r.data.toList [10]).1 := ⟨_, rfl⟩
      obtain ⟨q, hq⟩ : ∃ q : ByteArray, q = ⟨(Lib.cut r.data.toList [10]).2.1.toArray⟩ := ⟨_, rfl⟩
      obtain ⟨m, hm⟩ : ∃ m : Bool, m = (Lib.cut r.data.toList [10]).2.2 := ⟨_, rfl⟩
      have hqz : q.size < r.size := by rw [hq]; exact hc2
      rw [← hx, ← hq] at hc
      have Hx : Hid (⟨(Lib.cut r.data.toList [10]).1.toArray⟩ = x ∧ (⟨(Lib.cut r.data.toList [10]).2.1.toArray⟩ : ByteArray) = q ∧ (Lib.cut r.data.toList [10]).2.2 = m) := ⟨hx.symm, hq.symm, hm.symm⟩
      have hpre : pre ++ [x] ++ linesS q = linesS s := by rw [← HR.out.2.1, hc]; simp
      have Hpre := Lib.hid hpre
      have HEr : Hid (Env wr) := HE.out.stays HR.out.2.2
      clear hx hq hm hc hc2 hpre hne
      gi_wp2_with (refine ⟨trivial, ?_⟩; gi_at_call 19; refine (callsIn_wide.2 (cut_any r ⟨#[10]⟩ _ (by omega) HEr.out)).mono ?_; rintro e w1 ⟨rfl, hb1⟩; rw [show (⟨#[10]⟩ : ByteArray).data.toList = [10] from rfl, Hx.out.1, Hx.out.2.1, Hx.out.2.2]; obtain ⟨fn, tmps, assign, body, hy, hR⟩ := HY.out pre x w1 (HJb.out _ _ _ HR.out.1 hb1) ⟨_, Hpre.out⟩; have HR2 := Lib.hid hR; have Hb1 := Lib.hid hb1; clear hR hb1)
      refine HR2.out.mono ?_
      rintro e W3 (⟨rfl, hJ3, hk3⟩ | ⟨rfl, hx3⟩)
      · have k0 : Boxed w1 b 9 (.string r) := (Hb1.out.block b hlt).trans g1
        have k1 := hk3.2 _ _ k0
        have hbw3 := Lib.hid (HR.out.2.2.trans ((Hb1.out.mono hge).trans hk3.1))
        have d1 := k1.cell
        have e1 := k1.frozen
        clear c1 f1 g1 k0
        gi_wp2
        go_roundw
        case rel => exact ⟨pre ++ [x], q, k1.set _, ⟨HJ.out _ _ _ hJ3, Hpre.out, hbw3.out.setCell (p := ⟨b, 0, none⟩) hnb _⟩, by omega⟩
        case measure => rw [hra.out, restAt_eq (k1.set _)]; exact hqz
      · gi_wp2
        refine bodyPost_ret (results_none rfl _ _ _) rfl ?_
        exact ⟨⟨_, rfl⟩, .inr ⟨_, ⟨_, Hpre.out⟩, hx3⟩⟩
end Go.Proofs.YtigfogpfcbcdhaaGreatDoor
