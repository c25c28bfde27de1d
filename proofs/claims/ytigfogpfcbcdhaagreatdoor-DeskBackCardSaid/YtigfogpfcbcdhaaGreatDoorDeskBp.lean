/- How long a line's text is, in plain Lean. -/
import Derived.Test.YtigfogpfcbcdhaaGreatDoorDeskC
set_option linter.unusedVariables false
set_option linter.unusedSimpArgs false
namespace Go.Proofs.YtigfogpfcbcdhaaGreatDoor
namespace Dk
open Go.Lib
theorem hexT_len (b : Bs) : (hexT b).length ≤ 1 + 2 * b.length := by
  unfold hexT
  split
  · simp
  · rw [hexL_length]; omega
theorem join_len (bs : List Bs) : (join (bs.map hexT)).length ≤ 3 * sumB bs := by
  induction bs with
  | nil => simp [join]
  | cons b t ih =>
    have e : sumB (b :: t) = 1 + b.length + sumB t := by simp [sumB]
    have h := hexT_len b
    have e2 : join ((b :: t).map hexT) = 32 :: hexT b ++ join (t.map hexT) := by simp [join]
    rw [e2, List.length_append, List.length_cons, e]
    omega
theorem itoa_len22 {n : Int} (h : -9223372036854775808 ≤ n ∧ n ≤ 9223372036854775807) : (itoa n).length ≤ 21 := by
  exact itoa_length_le n h.1 h.2
theorem fold_len : ∀ (f out : Bs) (ns : List Int) (bs : List Bs) (t : Bs), In64 ns → f.foldl step (some (out, ns, bs)) = some (t, [], []) → t.length ≤ out.length + 22 * f.length + 3 * sumB bs
  | [], out, ns, bs, t, _, h => by
    simp only [List.foldl_nil, Option.some.injEq, Prod.mk.injEq] at h
    rw [h.1]; omega
  | c :: f, out, ns, bs, t, hi, h => by
    rw [List.foldl_cons] at h
    cases hs : step (some (out, ns, bs)) c with
    | none => rw [hs, step_none] at h; cases h
    | some st =>
      obtain ⟨o', ns', bs'⟩ := st
      rw [hs] at h
      have key : In64 ns' ∧ o'.length + 3 * sumB bs' ≤ out.length + 22 + 3 * sumB bs := by
        unfold step at hs
        simp only at hs
        split at hs
        · match bs, hs with
          | b :: bs, hs =>
            simp only [Option.some.injEq, Prod.mk.injEq] at hs
            obtain ⟨rfl, rfl, rfl⟩ := hs
            have e : sumB (b :: bs) = 1 + b.length + sumB bs := by simp [sumB]
            have hh := hexT_len b
            refine ⟨hi, ?_⟩
            simp only [List.length_append, List.length_cons]
            omega
        · split at hs
          · split at hs
            · simp only [Option.some.injEq, Prod.mk.injEq] at hs
              obtain ⟨rfl, rfl, rfl⟩ := hs
              have hh := join_len bs
              have e : sumB [] = 0 := rfl
              refine ⟨hi, ?_⟩
              simp only [List.length_append]
              omega
            · cases hs
          · match ns, hi, hs with
            | n :: ns, hi, hs =>
              simp only at hs
              split at hs
              · simp only [Option.some.injEq, Prod.mk.injEq] at hs
                obtain ⟨rfl, rfl, rfl⟩ := hs
                have hh := itoa_len22 (hi n List.mem_cons_self)
                refine ⟨fun m hm => hi m (List.mem_cons_of_mem _ hm), ?_⟩
                simp only [List.length_append, List.length_cons]
                omega
              · cases hs
      have := fold_len f _ _ _ _ key.1 h
      have := key.2
      simp only [List.length_cons]
      omega
theorem form_short {w f : Bs} (h : formL w = some f) : f.length ≤ 9 := by
  have := form_all (p := fun _ f => decide (f.length ≤ 9)) (by decide +kernel) h
  simpa using this
/-- A text is no longer than three times its line, and some. -/
theorem txt_len {l : Ln} {t : Bs} (hi : In64 l.nums) (h : txt l = some t) : t.length ≤ 3 * sizeL l + 200 := by
  unfold txt at h
  split at h
  · cases h
  · rename_i f hf
    have := fold_len f _ _ _ _ hi (fin_some h)
    have := form_short hf
    unfold sizeL
    omega
end Dk
end Go.Proofs.YtigfogpfcbcdhaaGreatDoor
