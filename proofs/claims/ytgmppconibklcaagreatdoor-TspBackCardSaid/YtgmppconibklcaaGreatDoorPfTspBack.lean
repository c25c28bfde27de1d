/- The row and the tied card of TspBack, off its walk. -/
import Derived.Test.YtgmppconibklcaaGreatDoorM47
import Derived.Test.YtgmppconibklcaaGreatDoorM48
import Derived.Carry
set_option linter.unusedVariables false
set_option linter.unusedSimpArgs false
namespace Go.Proofs.YtgmppconibklcaaGreatDoor
open Go Go.ChangeShapes Go.WideShapes Go.ChangeAt Go.RowKit
theorem tspBack_closed:joinedFacts Tryz.prog 5 Tryz.f5 Rows.tspBackSpec Rows.tspBackRow=true:=by
 unfold joinedFacts;rw [zeY,z8w,zeW,zeX]
 kernel_rfl
theorem tspBack_holds:Rows.TspBackSaid:=
 OpenClaim.holds_of_wide 5 Tryz.f5 rfl rfl rfl rfl rfl rfl rfl ⟨rfl,rfl,rfl,rfl,rfl⟩ rfl rfl rfl rfl rfl (by kernel_rfl) Tryz.func5 tspBack_closed
  (of_decide_eq_true (by kernel_rfl)) (by unfold Func.isWrapper;first|(rw [if_pos (by decide +kernel)];kernel_rfl)|(rw [if_neg (by decide +kernel)];exact ⟨rfl,rfl⟩))
  (fun os started H enc _=>z8c os started H enc)
theorem tspBack_card:Rows.TspBackCardSaid:=
 Claim7.holds_tied_plain_at .later [] [.data,.pinned] true (true,"e660e74d226774227726f1bb67788312319b6b8098fefc291b3c344c93c36a68") true tspBack_holds (fun _ h=>by cases h) (by kernel_rfl) (fun _ h=>by cases h) tspBack_row_tie rfl ⟨rfl,rfl⟩ (by kernel_rfl) rfl
  (fun f fn hf hfn=>by
   obtain rfl:f=5:=Option.some.inj ((show Tryz.prog.funcNamed "postmark/postmarklaw10.TspBack"=some 5 by kernel_rfl).symm.trans hf) |>.symm;obtain rfl:fn=Tryz.f5:=(Option.some.inj (Tryz.func5.symm.trans hfn)).symm;exact ⟨by kernel_rfl,fun j t ht=>by
    rw [Tryz.params5] at ht;have hm:t∈[27,46,3,22]:=by simpa using Array.mem_of_getElem? ht
    have hall:([27,46,3,22].all fun u=>!Tryz.prog.wantsStandIn u)=true:=by kernel_rfl
    exact (show Tryz.prog.wantsStandIn t=false by simpa using List.all_eq_true.1 hall t hm)⟩)
  (zlP rfl)
#print axioms tspBack_card
end Go.Proofs.YtgmppconibklcaaGreatDoor

