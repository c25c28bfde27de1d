/- Part of the proof. No condition. -/
import Derived.Test.YtgmppconibklcaaGreatDoorM40
set_option maxHeartbeats 40000000
set_option maxRecDepth 100000
set_option linter.unusedVariables false
set_option linter.unusedSimpArgs false
namespace Go.Proofs.YtgmppconibklcaaGreatDoor
open Go Go.RowKit
namespace Am
variable {gl:Nat→Option (List D)}
theorem InR.fin {n:Nd} {q:Rq.Info} {x:E} {e rr:Bool} (h:Rq.z9s n=if (e&&rr)=true then some q else none) (hx:X10 x) (hq:(e&&rr)=true→x=infX q (Nt.lim q.serial) (Nt.lim q.nonce)):InR n (.tup [x,bX (e&&rr)]) [] []:=by
 cases hb:(e&&rr) with
 | true=>
  rw [hb] at h hq;exact ⟨⟨x,by rw [h];rfl,hx,fun q' h'=>by rw [h] at h';injection h' with h';subst h';exact hq rfl⟩,rfl,rfl⟩
 | false=>
  rw [hb] at h;exact InR.no hx h
end Am
end Go.Proofs.YtgmppconibklcaaGreatDoor

