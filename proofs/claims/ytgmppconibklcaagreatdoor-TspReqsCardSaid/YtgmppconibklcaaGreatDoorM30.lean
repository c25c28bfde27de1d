/- Part of the proof. No condition. -/
import Derived.Test.YtgmppconibklcaaGreatDoorM29
import Derived.Test.YtgmppconibklcaaGreatDoorM28
set_option maxHeartbeats 40000000
set_option maxRecDepth 100000
set_option linter.unusedVariables false
set_option linter.unusedSimpArgs false
namespace Go.Proofs.YtgmppconibklcaaGreatDoor
open Go Go.RowKit
namespace Am
variable {gl:Nat→Option (List D)}
abbrev infX (i:Rq.Info) (sl nl:List Nat):E:= .agg [.d (.leaf (.string ⟨i.policy.toArray⟩)),.d (.leaf (.string ⟨i.alg.toArray⟩)),.d (z04 i.impr),.d (nuR .u32 sl),.d (.leaf (.int .i64 i.time)),.d (.leaf (.int .i64 i.micros)),.d (.leaf (.int .i64 i.secs)),.d (.leaf (.int .i64 i.millis)),.d (.leaf (.bool i.has)),.d (nuR .u32 nl)]
end Am
end Go.Proofs.YtgmppconibklcaaGreatDoor

