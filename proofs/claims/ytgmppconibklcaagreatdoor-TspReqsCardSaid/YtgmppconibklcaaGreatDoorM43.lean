/- Part of the proof. No condition. -/
import Derived.Test.YtgmppconibklcaaGreatDoorM41
set_option maxHeartbeats 40000000
set_option maxRecDepth 100000
set_option linter.unusedVariables false
set_option linter.unusedSimpArgs false
namespace Go.Proofs.YtgmppconibklcaaGreatDoor
open Go Go.RowKit
namespace Am
variable {gl:Nat→Option (List D)}
end Am
end Go.Proofs.YtgmppconibklcaaGreatDoor

