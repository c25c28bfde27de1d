/- The row and the tied card of TspReqs, off its walk. -/
import Derived.Test.YtgmppconibklcaaGreatDoorM51
import Derived.Carry
set_option maxHeartbeats 40000000
set_option maxRecDepth 100000
set_option linter.unusedVariables false
set_option linter.unusedSimpArgs false
namespace Go.Proofs.YtgmppconibklcaaGreatDoor
open Go Go.ChangeShapes Go.WideShapes Go.ChangeAt Go.RowKit
theorem tspReqs_closed:joinedFacts Tryz.prog 3 Tryz.f3 Rows.tspReqsSpec Rows.tspReqsRow=true:=by
 unfold joinedFacts;rw [zfV,z8K,zfT,zfU]
 kernel_rfl
theorem tspReqs_holds:Rows.TspReqsSaid:=
 OpenClaim.holds_of_wide 3 Tryz.f3 rfl rfl rfl rfl rfl rfl rfl ⟨rfl,rfl,rfl,rfl,rfl⟩ rfl rfl rfl rfl rfl (by kernel_rfl) Tryz.func3 tspReqs_closed
  (of_decide_eq_true (by kernel_rfl)) (by unfold Func.isWrapper;first|(rw [if_pos (by decide +kernel)];kernel_rfl)|(rw [if_neg (by decide +kernel)];exact ⟨rfl,rfl⟩))
  (fun os started H enc _=>z8q os started H enc)
theorem tspReqs_card:Rows.TspReqsCardSaid:=
 Claim7.holds_tied_plain_at .later [] [.data,.pinned] true (true,"e660e74d226774227726f1bb67788312319b6b8098fefc291b3c344c93c36a68") true tspReqs_holds (fun _ h=>by cases h) (by kernel_rfl) (fun _ h=>by cases h) tspReqs_row_tie rfl ⟨rfl,rfl⟩ (by kernel_rfl) rfl
  (fun f fn hf hfn=>by
   obtain rfl:f=3:=Option.some.inj ((show Tryz.prog.funcNamed "postmark/postmarklaw10.TspReqs"=some 3 by kernel_rfl).symm.trans hf) |>.symm;obtain rfl:fn=Tryz.f3:=(Option.some.inj (Tryz.func3.symm.trans hfn)).symm;exact ⟨by kernel_rfl,fun j t ht=>by
    rw [Tryz.params3] at ht;have hm:t∈[27,22]:=by simpa using Array.mem_of_getElem? ht
    have hall:([27,22].all fun u=>!Tryz.prog.wantsStandIn u)=true:=by kernel_rfl
    exact (show Tryz.prog.wantsStandIn t=false by simpa using List.all_eq_true.1 hall t hm)⟩)
  (znD rfl)
#print axioms tspReqs_card
end Go.Proofs.YtgmppconibklcaaGreatDoor

