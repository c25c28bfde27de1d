/- The walk of Among: a number below another. -/
import Derived.Test.YtehdbceemdpbaaaDoorCalW

namespace Go.Proofs.YtehdbceemdpbaaaDoor
open Go Go.RowKit

set_option maxRecDepth 100000 in
theorem among_any (n k : Int) (w : World) (h0 : -9223372036854775808 ≤ n) (h1 : n ≤ 9223372036854775807) (hk0 : 1 ≤ k) (hk1 : k ≤ 1000000) :
    Calls Tryd.prog 28 #[.int .i64 n, .int .i64 k] w fun e w' => ∃ u : Int, e = .returned (.int .i64 u) ∧ 0 ≤ u ∧ u < k ∧ w = w' := by
  have h2 := Int.lt_tmod_of_pos n (b := k) (by omega)
  have h3 := Int.tmod_lt_of_pos n (b := k) (by omega)
  obtain ⟨r, hr⟩ : ∃ r, r = n.tmod k := ⟨_, rfl⟩
  by_cases hn : 0 ≤ n
  · have h4 : 0 ≤ n % k := Int.emod_nonneg _ (by omega)
    have h5 : n % k < k := Int.emod_lt_of_pos _ (by omega)
    clear h2 h3 hr
    go_enter Tryd.func28, Tryd.ntmps28
    go_wp2_with fail
    go_ret
    exact ⟨_, rfl, h4, h5, rfl⟩
  · rw [← hr] at h2 h3
    by_cases hr0 : r < 0
    · rw [hr] at hr0 h2 h3
      go_enter Tryd.func28, Tryd.ntmps28
      go_wp2_with fail
      go_ret
      exact ⟨_, rfl, by omega, by omega, rfl⟩
    · rw [hr] at hr0 h2 h3
      go_enter Tryd.func28, Tryd.ntmps28
      go_wp2_with fail
      go_ret
      exact ⟨_, rfl, by omega, by omega, rfl⟩
end Go.Proofs.YtehdbceemdpbaaaDoor
