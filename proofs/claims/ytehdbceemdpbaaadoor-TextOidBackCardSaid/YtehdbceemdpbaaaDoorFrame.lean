/- What the listed tables give the walks; the world that meets them. -/
import Derived.Test.YtehdbceemdpbaaaDoorTie
import Derived.Test.YtehdbceemdpbaaaDoorCards
import Derived.Test.YtehdbceemdpbaaaDoorWords
import Derived.Test.YtehdbceemdpbaaaDoorShelf
import Derived.ProofKit
import Derived.OpenShut
import Derived.LaidMore
import Derived.Lay
import Derived.Stop.Joined
import Derived.Lib.LaidU8
namespace Go.Proofs.YtehdbceemdpbaaaDoor
open Go Go.ChangeShapes Go.WideShapes Go.ChangeAt Go.RowKit

theorem own : ownKnob Tryd.prog.godebug = none := by kernel_rfl
/-- The two tables as the rows list them. -/
def tabs2 : List (String × DataW Unit) := [("unicode/utf8.acceptRanges", Rows.laid_unicode_utf8_acceptRanges), ("unicode/utf8.first", Rows.laid_unicode_utf8_first)]
theorem tabs2_lib : tabs2 = [("unicode/utf8.acceptRanges", Lib.acceptData), ("unicode/utf8.first", Lib.firstData)] := by kernel_rfl
theorem tabs_of_laid {W : World} (h : laidMetH Tryd.prog tabs2 W) : Lib.Utf8Tabs 0 1 W := by
  rw [MakeChecks.laidMetH_plain _ _ _ (by kernel_rfl), tabs2_lib] at h
  exact utf8Tabs_of_reads (ρ := Tryd.lays260_ren) { Tryd.lays260 with } ⟨by kernel_rfl, by kernel_rfl, by kernel_rfl, by kernel_rfl, by kernel_rfl, by kernel_rfl, by kernel_rfl⟩ (Lib.laidMet.reads h (.tail _ (.head _))) (Lib.laidMet.reads h (.head _))
theorem tabs_met (os : Os) (args : Array Value) : laidMetH Tryd.prog tabs2 ((World.laidAll Tryd.prog os tabs2).forCall (fun _ _ => 0) ⟨#[], args, []⟩).memory := by
  rw [MakeChecks.laidMetH_plain _ _ _ (by kernel_rfl)]; exact laidMet_laidAll _ (by kernel_rfl) (by kernel_rfl)
end Go.Proofs.YtehdbceemdpbaaaDoor
