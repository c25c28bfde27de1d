/- No function of the program starts a goroutine: asked of the functions, one by one, in parts (the road's own closure is too great for the kernel). No condition. -/
import Derived.Test.YtigfogpfcbcdhaaGreatDoorProg
import GoSem.ClaimGoes
import Derived.KernelRfl
set_option linter.unusedVariables false
set_option linter.unusedSimpArgs false
namespace Go.Proofs.YtigfogpfcbcdhaaGreatDoor
open Go
noncomputable def stillFrom (a n : Nat) : Bool := (List.range' a n).all fun g => !((Tryz.prog.funcs[g]?).any Func.goes)
theorem still0 : stillFrom 0 30 = true := by kernel_rfl
theorem still30 : stillFrom 30 30 = true := by kernel_rfl
theorem still60 : stillFrom 60 30 = true := by kernel_rfl
theorem still90 : stillFrom 90 30 = true := by kernel_rfl
theorem still120 : stillFrom 120 30 = true := by kernel_rfl
theorem still150 : stillFrom 150 30 = true := by kernel_rfl
theorem still180 : stillFrom 180 30 = true := by kernel_rfl
theorem still210 : stillFrom 210 30 = true := by kernel_rfl
theorem still240 : stillFrom 240 30 = true := by kernel_rfl
theorem still270 : stillFrom 270 30 = true := by kernel_rfl
theorem still300 : stillFrom 300 30 = true := by kernel_rfl
theorem still330 : stillFrom 330 30 = true := by kernel_rfl
theorem still360 : stillFrom 360 30 = true := by kernel_rfl
theorem still390 : stillFrom 390 30 = true := by kernel_rfl
theorem still420 : stillFrom 420 30 = true := by kernel_rfl
theorem still450 : stillFrom 450 30 = true := by kernel_rfl
theorem still480 : stillFrom 480 23 = true := by kernel_rfl
theorem funcs_size : Tryz.prog.funcs.size = 503 := by kernel_rfl
theorem still_at {a n g : Nat} (h : stillFrom a n = true) (h1 : a ≤ g) (h2 : g < a + n) : (Tryz.prog.funcs[g]?).any Func.goes = false := by
  unfold stillFrom at h
  have := List.all_eq_true.1 h g (List.mem_range'_1.2 ⟨h1, h2⟩)
  simpa using this
theorem still_all (g : Nat) : (Tryz.prog.funcs[g]?).any Func.goes = false := by
  by_cases h0 : g < 30
  · exact still_at still0 (by omega) (by omega)
  by_cases h30 : g < 60
  · exact still_at still30 (by omega) (by omega)
  by_cases h60 : g < 90
  · exact still_at still60 (by omega) (by omega)
  by_cases h90 : g < 120
  · exact still_at still90 (by omega) (by omega)
  by_cases h120 : g < 150
  · exact still_at still120 (by omega) (by omega)
  by_cases h150 : g < 180
  · exact still_at still150 (by omega) (by omega)
  by_cases h180 : g < 210
  · exact still_at still180 (by omega) (by omega)
  by_cases h210 : g < 240
  · exact still_at still210 (by omega) (by omega)
  by_cases h240 : g < 270
  · exact still_at still240 (by omega) (by omega)
  by_cases h270 : g < 300
  · exact still_at still270 (by omega) (by omega)
  by_cases h300 : g < 330
  · exact still_at still300 (by omega) (by omega)
  by_cases h330 : g < 360
  · exact still_at still330 (by omega) (by omega)
  by_cases h360 : g < 390
  · exact still_at still360 (by omega) (by omega)
  by_cases h390 : g < 420
  · exact still_at still390 (by omega) (by omega)
  by_cases h420 : g < 450
  · exact still_at still420 (by omega) (by omega)
  by_cases h450 : g < 480
  · exact still_at still450 (by omega) (by omega)
  by_cases h480 : g < 503
  · exact still_at still480 (by omega) (by omega)
  rw [Array.getElem?_eq_none (by rw [funcs_size]; omega)]; rfl
theorem goes_none (f : FuncId) : Tryz.prog.goes f = false := by
  have h2 : Tryz.prog.funcs.any Func.goes = false := by
    rw [Array.any_eq_false]
    intro i hi
    have := still_all i
    rw [Array.getElem?_eq_getElem hi] at this
    simpa using this
  have h1 : ((Tryz.prog.closure f).any fun g => (Tryz.prog.funcs[g]?).any Func.goes) = false := by
    rw [List.any_eq_false]
    intro g _
    rw [still_all g]; simp
  unfold Program.goes
  rw [h1, h2]; simp
theorem goes_by {c : OpenClaim} (h : c.start = .entering) : false = c.goesBy Tryz.prog := by
  unfold OpenClaim.goesBy Program.goesAt Program.goesFrom
  rw [h]
  cases Tryz.prog.funcNamed c.func with
  | none => rfl
  | some f => simp [goes_none f]
end Go.Proofs.YtigfogpfcbcdhaaGreatDoor
