/- Part of the proof. No condition. -/
import Derived.Test.YtgmppconibklcaaGreatDoorM30
import Derived.Test.YtgmppconibklcaaGreatDoorM31
set_option maxHeartbeats 40000000
set_option maxRecDepth 100000
set_option linter.unusedVariables false
set_option linter.unusedSimpArgs false
namespace Go.Proofs.YtgmppconibklcaaGreatDoor
open Go Go.RowKit
namespace Am
variable {gl:Nat→Option (List D)}
def inR (o:Option Int) (m:Int):Bool:=o.isSome&&(decide (1≤o.getD 0)&&decide (o.getD 0≤m))
def accR2 (many:Bool) (s:Int) (l:List Nd):Bool×Int×Int:=
 if ((l.headD Nd.nil).cls==2&&((l.headD Nd.nil).tag==0&&!(l.headD Nd.nil).cons))=true then
  (if inR (Dr.intOf (Dr.prim 2 (l.headD Nd.nil).bytes)) 999=true then (((l.drop 1).length==0)&&many,s,(Dr.intOf (Dr.prim 2 (l.headD Nd.nil).bytes)).getD 0) else (false,s,0))
 else ((l.length==0)&&many,s,0)
def accR (n:Nd):Bool×Int×Int:=
 if ((n.kids.headD Nd.nil).cls==0&&(n.kids.headD Nd.nil).tag==2)=true then
  (if inR (Dr.intOf (n.kids.headD Nd.nil)) 1000000=true then accR2 (decide (0<n.kids.length)) ((Dr.intOf (n.kids.headD Nd.nil)).getD 0) (n.kids.drop 1) else (false,0,0))
 else accR2 (decide (0<n.kids.length)) 0 n.kids
abbrev infO (a b c d e f:D) (s m:Int) (h n:D):O:= .var 46 [.d a,.d b,.d c,.d d,.d e,.d f,.d (.leaf (.int .i64 s)),.d (.leaf (.int .i64 m)),.d h,.d n]
end Am
end Go.Proofs.YtgmppconibklcaaGreatDoor

