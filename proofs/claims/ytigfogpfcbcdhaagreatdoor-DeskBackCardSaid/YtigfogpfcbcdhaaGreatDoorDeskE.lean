/- What the desk's walks ask of the world: the library's variables that its calls read; those calls' contracts over it. -/
import Derived.Test.YtigfogpfcbcdhaaGreatDoorShelf
import Derived.Test.YtigfogpfcbcdhaaGreatDoorDeskD
import Derived.WalkSmall
import Derived.Lib.AtoiErrMem
set_option linter.unusedVariables false
set_option linter.unusedSimpArgs false
namespace Go.Proofs.YtigfogpfcbcdhaaGreatDoor
open Go Go.RowKit
/-- A variable that holds an error. -/
def ErrAt (w : World) (g : Nat) : Prop := ∃ ev, w.cell? ⟨g, 0, none⟩ = some ev ∧ (ev = .nilIface ∨ ∃ te pe, ev = .iface te pe)
structure Env (w : World) : Prop where
  most : ∃ m : Int, w.cell? ⟨0, 0, none⟩ = some (.int .i64 m)
  syn : ErrAt w 1
  ran : ErrAt w 2
  tab : Lib.TabIs Tryz.prog w "internal/strconv.uint64pow10" .u64 Lib.pow10Tab
theorem tab_named : Tryz.prog.globalNamed "internal/strconv.uint64pow10" = some 3 := by kernel_rfl
theorem cell_stays {w w' : World} {p : Addr} {v : Value} (hb : Below w.heap.size w w') (h : w.cell? p = some v) : w'.cell? p = some v := (hb.cell (World.block_lt_of_cell? w p h)).trans h
theorem ErrAt.stays {w w' : World} {g : Nat} (h : ErrAt w g) (hb : Below w.heap.size w w') : ErrAt w' g := by
  obtain ⟨ev, hc, he⟩ := h
  exact ⟨ev, cell_stays hb hc, he⟩
theorem Env.stays {w w' : World} (h : Env w) (hb : Below w.heap.size w w') : Env w' :=
  ⟨by obtain ⟨m, hm⟩ := h.most; exact ⟨m, cell_stays hb hm⟩, h.syn.stays hb, h.ran.stays hb, by
    have ht := h.tab
    unfold Lib.TabIs at ht ⊢
    refine var?_below hb tab_named ?_ ht
    unfold World.var? at ht
    rw [tab_named, Option.bind_some] at ht
    rcases Nat.lt_or_ge 3 w.heap.size with h' | h'
    · exact h'
    · rw [Array.getElem?_eq_none h'] at ht; simp at ht⟩
theorem below_grow_draws (w : World) (k : Nat) (os : Array Obj) : Below w.heap.size w (Sort.grow (w.drewN k) os) :=
  ⟨rfl, rfl, rfl, by simp [Sort.grow, World.drewN], fun i hi => by
    have e : (Sort.grow (w.drewN k) os).heap = w.heap ++ os := rfl
    rw [e, Array.getElem?_append_left hi]⟩
theorem fmt_any (n : Int) (w : World) (h0 : -9223372036854775808 ≤ n) (h1 : n ≤ 9223372036854775807) (he : Env w) :
    Calls Tryz.prog 29 #[.int .i64 n, .int .i64 10] w fun e w' => e = .returned (.string ⟨(Lib.itoa n).toArray⟩) ∧ Below w.heap.size w w' :=
  (Tryz.strconv_FormatInt_10 n h0 h1 w he.tab).mono fun e w' ⟨h, k, os, hw⟩ => ⟨h, hw ▸ below_grow_draws w k os⟩
theorem itoa_any (n : Int) (w : World) (h0 : -9223372036854775808 ≤ n) (h1 : n ≤ 9223372036854775807) (he : Env w) :
    Calls Tryz.prog 50 #[.int .i64 n] w fun e w' => e = .returned (.string ⟨(Lib.itoa n).toArray⟩) ∧ Below w.heap.size w w' :=
  (Tryz.strconv_Itoa n h0 h1 w he.tab).mono fun e w' ⟨h, k, os, hw⟩ => ⟨h, hw ▸ below_grow_draws w k os⟩
/-- strings.Cut at a blank. -/
theorem cut_any (s sep : ByteArray) (w : World) (hs : s.size ≤ 10000000) (he : Env w) :
    Calls Tryz.prog 19 #[.string s, .string sep] w fun e w' => e = .returned (.tuple #[.string ⟨(Lib.cut s.data.toList sep.data.toList).1.toArray⟩, .string ⟨(Lib.cut s.data.toList sep.data.toList).2.1.toArray⟩, .bool (Lib.cut s.data.toList sep.data.toList).2.2]) ∧ Below w.heap.size w w' := by
  obtain ⟨m, hm⟩ := he.most
  exact (Tryz.strings_Cut s sep m w (by omega) hm).mono fun e w' ⟨h, n, hw⟩ => ⟨h, hw ▸ below_drewN (Below.refl _ w) n⟩
/-- strconv.ParseInt of any text, as the desk's reader has it: the number, and an error that is nil just where the text is a number. -/
theorem parseInt_any (s : ByteArray) (w : World) (hs : s.size ≤ 10000000) (he : Env w) :
    Calls Tryz.prog 22 #[.string s, .int .i64 10, .int .i64 64] w fun e w' => ∃ ev, e = .returned (.tuple #[.int .i64 (Dk.nbD s.data.toList), ev]) ∧ ((Dk.gnD s.data.toList = true ∧ ev = .nilIface) ∨ (Dk.gnD s.data.toList = false ∧ ∃ t p, ev = .iface t p)) ∧ Below w.heap.size w w' := by
  cases h : Lib.parseIntB 64 s.data.toList
  · rename_i v
    refine (Tryz.strconv_ParseInt_10_at64_ok s (by omega) v h w).mono fun e w' ⟨hr, hw⟩ => ⟨.nilIface, ?_, .inl ⟨?_, rfl⟩, ?_⟩
    · rw [hr]; unfold Dk.nbD; rw [h]
    · unfold Dk.gnD; rw [h]
    · rcases hw with rfl | ⟨t, rfl⟩
      · exact Below.refl _ _
      · exact Lib.bytesWorld_below _ _ _ 
  · obtain ⟨ev, hc, hev⟩ := he.syn
    refine (Tryz.strconv_ParseInt_10_at64_syntax s (by omega) h ev w hc hev).mono fun e w' ⟨N, hr, _, _, hb⟩ => ⟨.iface 130 (.pointer (some ⟨N, 0, none⟩)), ?_, .inr ⟨?_, _, _, rfl⟩, hb⟩
    · rw [hr]; unfold Dk.nbD; rw [h]
    · unfold Dk.gnD; rw [h]
  · obtain ⟨ev, hc, hev⟩ := he.ran
    refine (Tryz.strconv_ParseInt_10_at64_range s (by omega) h ev w hc hev).mono fun e w' ⟨N, hr, _, _, hb⟩ => ⟨.iface 130 (.pointer (some ⟨N, 0, none⟩)), ?_, .inr ⟨?_, _, _, rfl⟩, hb⟩
    · rw [hr]; unfold Dk.nbD; rw [h]
    · unfold Dk.gnD; rw [h]
end Go.Proofs.YtigfogpfcbcdhaaGreatDoor
