/- The walk of the law's known: the fixed script and the fixed line come out as they should. -/
import Derived.Test.YtigfogpfcbcdhaaGreatDoorDeskZ
set_option linter.unusedVariables false
set_option linter.unusedSimpArgs false
namespace Go.Proofs.YtigfogpfcbcdhaaGreatDoor
open Go Go.RowKit
def kScript : ByteArray := ⟨#[112, 117, 116, 32, 51, 32, 48, 48, 102, 102, 10, 115, 104, 111, 119, 32, 51, 10, 115, 104, 111, 119, 32, 49, 54, 10, 97, 115, 107, 32, 48, 32, 48, 32, 53, 10, 99, 117, 116, 32, 45, 49]⟩
def kLine : ByteArray := ⟨#[114, 101, 113, 32, 50, 32, 97, 98, 32, 50, 53, 54, 32, 45, 32, 49]⟩
theorem kLines : linesS kScript = [⟨#[112, 117, 116, 32, 51, 32, 48, 48, 102, 102]⟩, ⟨#[115, 104, 111, 119, 32, 51]⟩, ⟨#[115, 104, 111, 119, 32, 49, 54]⟩, ⟨#[97, 115, 107, 32, 48, 32, 48, 32, 53]⟩, ⟨#[99, 117, 116, 32, 45, 49]⟩] := by kernel_rfl
theorem k1 : Dk.lineOf [112, 117, 116, 32, 51, 32, 48, 48, 102, 102] = some ⟨[112, 117, 116], [3], [[0, 255]]⟩ := by kernel_rfl
theorem k2 : Dk.lineOf [115, 104, 111, 119, 32, 51] = some ⟨[115, 104, 111, 119], [3], []⟩ := by kernel_rfl
theorem k3 : Dk.lineOf [115, 104, 111, 119, 32, 49, 54] = none := by kernel_rfl
theorem k4 : Dk.lineOf [97, 115, 107, 32, 48, 32, 48, 32, 53] = some ⟨[97, 115, 107], [0, 0, 5], []⟩ := by kernel_rfl
theorem k5 : Dk.lineOf [99, 117, 116, 32, 45, 49] = some ⟨[99, 117, 116], [-1], []⟩ := by kernel_rfl
theorem k6 : Dk.lineOf kLine.data.toList = some ⟨[114, 101, 113], [2, 256, 1], [[171], []]⟩ := by kernel_rfl
def kAns : List (List UInt8) := [[111, 107], [48, 48, 102, 102], [101, 114, 114, 111, 114, 32, 49, 50, 48], [101, 114, 114, 111, 114, 32, 51], [101, 114, 114, 111, 114, 32, 49]]
def kO (i : Nat) : List UInt8 := (kAns.take i).flatMap (· ++ [10])
def kS (i : Nat) : Option (List UInt8) := if i = 0 then none else some [0, 255]
def kOut : ByteArray := ⟨#[111, 107, 10, 48, 48, 102, 102, 10, 101, 114, 114, 111, 114, 32, 49, 50, 48, 10, 101, 114, 114, 111, 114, 32, 51, 10, 101, 114, 114, 111, 114, 32, 49, 10]⟩
theorem kDeeds : ∀ i (h : i < (linesS kScript).length), ∃ a, Deed ((linesS kScript)[i].data.toList) (kS i) (kS (i + 1)) a ∧ kO (i + 1) = kO i ++ a ++ [10] ∧ (kS (i + 1) = kS i ∨ i = 0) := by
  rw [kLines]
  intro i h
  match i, h with
  | 0, _ => exact ⟨_, .play _ k1 (.put _), by kernel_rfl, .inr rfl⟩
  | 1, _ => exact ⟨_, .play _ k2 (.see _ (by decide)), by kernel_rfl, .inl rfl⟩
  | 2, _ => exact ⟨_, .bad k3 rfl rfl, by kernel_rfl, .inl rfl⟩
  | 3, _ => exact ⟨_, .play _ k4 (.ask _), by kernel_rfl, .inl rfl⟩
  | 4, _ => exact ⟨_, .play _ k5 (.cut _), by kernel_rfl, .inl rfl⟩
  | i + 5, h => simp at h; omega
theorem kRun (w : World) (he : Env w) : Calls Tryz.prog 17 #[.string kScript] w fun e w' => e = .returned (.tuple #[.string kOut, .int .i64 0]) ∧ Below w.heap.size w w' := by
  refine (run_any kScript w (by decide) he kS kO rfl rfl (fun i hi => ?_) kDeeds).mono ?_
  · rw [kLines] at hi
    have : (kO i).length ≤ (kO 5).length := by
      simp at hi
      match i, hi with
      | 0, _ => decide
      | 1, _ => decide
      | 2, _ => decide
      | 3, _ => decide
      | 4, _ => decide
      | 5, _ => decide
    have h2 : (kO 5).length ≤ 100 := by decide
    omega
  · rintro e w' ⟨hb, h⟩
    rw [kLines, if_neg (by decide)] at h
    exact ⟨h, hb⟩
set_option maxRecDepth 100000 in
set_option maxHeartbeats 2000000 in
theorem known_any (w : World) (he : Env w) : Calls Tryz.prog 7 #[] w fun e w' => e = .returned (.bool true) ∧ Below w.heap.size w w' := by
  go_enter Tryz.func7, Tryz.ntmps7
  go_wp2_with fail
  refine (kRun w he).mono ?_
  rintro e w1 ⟨rfl, hb1⟩
  go_wp2_with fail
  refine (parse_any kLine w1 (by decide) (he.stays hb1)).mono ?_
  intro e w2 hp
  obtain ⟨v, rfl, hla, _, hb2, _⟩ := parse_of_some hp k6
  obtain ⟨vn, vb, rfl, hn, hbs⟩ := hla
  obtain ⟨An, cn, rfl, _⟩ := hn.nums
  obtain ⟨Ab, cb, rfl, _⟩ := hbs.rows
  have HB := Lib.hid (hb1.trans (hb2.mono hb1.size))
  clear hp hb1 hb2 hn hbs
  unfold kOut
  go_wp2_with fail
  go_ret
  exact ⟨rfl, HB.out.trans (((Below.refl _ w2).alloc (Nat.le_refl _) _).mono HB.out.size)⟩
end Go.Proofs.YtigfogpfcbcdhaaGreatDoor
