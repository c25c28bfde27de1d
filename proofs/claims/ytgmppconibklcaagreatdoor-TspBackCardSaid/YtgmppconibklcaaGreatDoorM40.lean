/- Part of the proof of TspBack. No condition: lemmas alone. -/
import Derived.Test.YtgmppconibklcaaGreatDoorM35
import Derived.Test.YtgmppconibklcaaGreatDoorM39
import Derived.Test.YtgmppconibklcaaGreatDoorM37
import Derived.KernelRfl
import Derived.Test.YtgmppconibklcaaGreatDoorM17
import Derived.Test.YtgmppconibklcaaGreatDoorM13
import Derived.Test.YtgmppconibklcaaGreatDoorM38
set_option linter.unusedVariables false
set_option linter.unusedSimpArgs false
set_option maxRecDepth 100000
namespace Go.Proofs.YtgmppconibklcaaGreatDoor
open Go Go.RowKit
namespace Am
variable {gl:Nat→Option (List D)}

set_option maxHeartbeats 4000000 in
theorem z7p {b:List UInt8} {n:Nd} {f:Int} (hb:b.length≤40000) (hr:Dr.read b=some n) (cO:OK gl 65 [nX n] (.tup [rspX 2 f [],bX true])):OK gl 64 [rX (z05 b),fnX 65] (.tup [rspX 2 f [],iX 0]):=by
 have cR:=z67 (gl:=gl) hb hr;clear hb hr;refine z0k Tryz.func64 rfl (by show 2≤_;decide) ?_;unfold Tryz.f64;dsimp only;repeat' (first
  | (first|refine sq_ ?_|refine bk_ ?_)
  | ((first|refine rg_ fun Q hQ=>?_|refine if_ fun Q hQ=>?_|refine ct_ (by first|with_reducible assumption|assumption) ?_|(refine z4o (cR) ?_;rintro t ws os' ⟨⟨x,rfl⟩,rfl,rfl⟩));simp -implicitDefEqProofs [*])
  | ((first|refine bs_ ?_ ?_|refine cs_ ?_ ?_)<;>(intro hc;have hb:=hc;(try simp only [hk_,ne_eq] at hc);(try have ⟨hc1,hc2⟩:_∧_:=hc);(try subst_vars))<;>first|contradiction|(exfalso;omega)|(simp -implicitDefEqProofs [*])|skip)
  | ((first|(refine atQ hQ ?_;clear hQ)|refine atQ (by assumption) ?_|refine z04 ?_|refine z06 ?_|refine z07 ?_);try simp only [sk_,if_true,if_false,↓reduceIte,Nat.reduceEqDiff])
  | (show EndK _ _ _ _ _ _ _ _;simp -implicitDefEqProofs [*])
  | ((simp (disch:=omega) only [if_pos,if_neg]);(try (simp -implicitDefEqProofs [*]))))
set_option maxHeartbeats 4000000 in
theorem z7q:OK gl 64 [rX (z05 []),fnX 65] (.tup [rspX 0 0 [],iX 60]):=by
 have cR:=z68 (gl:=gl) (b:=[]) (by decide) (by decide +kernel);refine z0k Tryz.func64 rfl (by show 2≤_;decide) ?_;unfold Tryz.f64;dsimp only;repeat' (first
  | (first|refine sq_ ?_|refine bk_ ?_)
  | ((first|refine rg_ fun Q hQ=>?_|refine if_ fun Q hQ=>?_|refine ct_ (by first|with_reducible assumption|assumption) ?_|(refine z4o (cR) ?_;rintro t ws os' ⟨⟨x,y,hy,rfl⟩,rfl,rfl⟩));simp -implicitDefEqProofs [*])
  | ((first|refine bs_ ?_ ?_|refine cs_ ?_ ?_)<;>(intro hc;have hb:=hc;(try simp only [hk_,ne_eq] at hc);(try have ⟨hc1,hc2⟩:_∧_:=hc);(try subst_vars))<;>first|contradiction|(exfalso;omega)|(simp -implicitDefEqProofs [*])|skip)
  | ((first|(refine atQ hQ ?_;clear hQ)|refine atQ (by assumption) ?_|refine z04 ?_|refine z06 ?_|refine z07 ?_);try simp only [sk_,if_true,if_false,↓reduceIte,Nat.reduceEqDiff])
  | (show EndK _ _ _ _ _ _ _ _;simp -implicitDefEqProofs [*])
  | ((simp (disch:=omega) only [if_pos,if_neg]);(try (simp -implicitDefEqProofs [*]))))
set_option maxHeartbeats 4000000 in
theorem z6p {b:List UInt8} {s f e:Int} (c:OK gl 64 [rX (z05 b),fnX 65] (.tup [rspX s f [],iX e])):OK gl 18 [rX (z05 b)] (.tup [rspX s f [],iX e]):=by
 refine z0k Tryz.func18 rfl (by show 1≤_;decide) ?_;unfold Tryz.f18;dsimp only;repeat' (first
  | (first|refine sq_ ?_|refine bk_ ?_)
  | ((first|refine rg_ fun Q hQ=>?_|refine if_ fun Q hQ=>?_|refine ct_ (by first|with_reducible assumption|assumption) ?_);simp -implicitDefEqProofs [*])
  | ((first|refine bs_ ?_ ?_|refine cs_ ?_ ?_)<;>(intro hc;have hb:=hc;(try simp only [hk_,ne_eq] at hc);(try have ⟨hc1,hc2⟩:_∧_:=hc);(try subst_vars))<;>first|contradiction|(exfalso;omega)|(simp -implicitDefEqProofs [*])|skip)
  | ((first|(refine atQ hQ ?_;clear hQ)|refine atQ (by assumption) ?_|refine z04 ?_|refine z06 ?_|refine z07 ?_);try simp only [sk_,if_true,if_false,↓reduceIte,Nat.reduceEqDiff])
  | (show EndK _ _ _ _ _ _ _ _;simp -implicitDefEqProofs [*])
  | ((simp (disch:=omega) only [if_pos,if_neg]);(try (simp -implicitDefEqProofs [*]))))
theorem zdI (f:Int) (h:z22 f=true):Dr.read (rejB f)=some (rejN f)∧(rejB f).length≤40000∧OK gl 16 [rspX 2 f []] (.tup [rX (z05 (rejB f)),iX 0])∧OK gl 65 [nX (rejN f)] (.tup [rspX 2 f [],bX true]):=by
 exact ⟨by rcases z1i h with rfl|rfl|rfl|rfl|rfl|rfl|rfl<;>kernel_rfl,by rcases z1i h with rfl|rfl|rfl|rfl|rfl|rfl|rfl<;>decide +kernel,z4a h,zgx h⟩
theorem zdT (f:Int) (h:z22 f=true):OK gl 18 [rX (z05 (rejB f))] (.tup [rspX 2 f [],iX 0]):=by
 obtain ⟨h1,h2,_,h4⟩:=zdI (gl:=gl) f h;exact z6p (z7p h2 h1 h4)
theorem zgS:OK gl 18 [rX (z05 [])] (.tup [rspX 0 0 [],iX 60]):=z6p z7q
def z1k:E:= .agg [.d (.leaf (.string ⟨#[]⟩)),.d (.leaf (.string ⟨#[]⟩)),.d (z05 []),.d (z05 []),.d (.leaf (.int .i64 0)),.d (.leaf (.int .i64 0)),.d (.leaf (.int .i64 0)),.d (.leaf (.int .i64 0)),.d (.leaf (.bool false)),.d (z05 [])]
set_option maxHeartbeats 4000000 in
theorem zim (q:Rq.Req) (ls:List Nat) (d d1 d2:D) (b:List UInt8) (f:Int) (c:OK gl 18 [rX (z05 b)] (.tup [rspX 2 f [],iX 0])):OK gl 26 [reqY q ls,rX (z05 b),rX d,.agg [.d d1,.d d2],iX 0] (.tup [z1k,iX 90]):=by
 refine z0k Tryz.func26 rfl (by show 5≤_;decide) ?_;unfold Tryz.f26;dsimp only;repeat' (first
  | (first|refine sq_ ?_|refine bk_ ?_)
  | ((first|refine rg_ fun Q hQ=>?_|refine if_ fun Q hQ=>?_|refine ct_ (by first|with_reducible assumption|assumption) ?_);simp -implicitDefEqProofs [*,z1k])
  | ((first|refine bs_ ?_ ?_|refine cs_ ?_ ?_)<;>(intro hc;have hb:=hc;(try simp only [hk_,ne_eq] at hc);(try have ⟨hc1,hc2⟩:_∧_:=hc);(try subst_vars))<;>first|contradiction|(exfalso;omega)|(simp -implicitDefEqProofs [*,z1k])|skip)
  | ((first|(refine atQ hQ ?_;clear hQ)|refine atQ (by assumption) ?_|refine z04 ?_|refine z06 ?_|refine z07 ?_);try simp only [sk_,if_true,if_false,↓reduceIte,Nat.reduceEqDiff])
  | (show EndK _ _ _ _ _ _ _ _;simp -implicitDefEqProofs [*,z1k])
  | ((simp (disch:=omega) only [if_pos,if_neg]);(try (simp -implicitDefEqProofs [*,z1k]))))
end Am
end Go.Proofs.YtgmppconibklcaaGreatDoor

namespace Go.Proofs.YtgmppconibklcaaGreatDoor
open Go Go.RowKit
theorem Blk.eight {w:World} {g:Nat} {t:TypeId} {c0 c1 c2 c3 c4 c5 c6 c7:Value} (h:Blk w g t #[c0,c1,c2,c3,c4,c5,c6,c7]):(w.cell? ⟨g,0,none⟩=some c0∧w.cell? ⟨g,1,none⟩=some c1∧w.cell? ⟨g,2,none⟩=some c2∧w.cell? ⟨g,3,none⟩=some c3∧w.cell? ⟨g,4,none⟩=some c4∧w.cell? ⟨g,5,none⟩=some c5∧w.cell? ⟨g,6,none⟩=some c6∧w.cell? ⟨g,7,none⟩=some c7)∧∀ k,w.frozen? ⟨g,k,none⟩=false:=⟨⟨h.cell 0,h.cell 1,h.cell 2,h.cell 3,h.cell 4,h.cell 5,h.cell 6,h.cell 7⟩,fun k=>h.frozen k⟩
set_option maxHeartbeats 4000000 in
set_option maxRecDepth 100000 in
theorem zct (w:World):
  Calls Tryz.prog 106 #[.int .i64 256] w fun e w'=>∃ t p,e = .returned (.iface t (.pointer (some p)))∧Below w.heap.size w w':=by
 go_enter Tryz.func106,Tryz.ntmps106
 go_wp2_with fail
 go_loopw [5,6,14] (fun t5 t6 t14 wr=>∃ (i:Int) (c0 c1 c2 c3 c4 c5 c6 c7:Value),t14 = .int .i64 i∧(0≤i∧i≤8)∧Hid (Blk wr (w.heap.size+1) 228 #[c0,c1,c2,c3,c4,c5,c6,c7]∧Below w.heap.size w wr)) (fun _ _ t14 _=>8-(intOf t14).toNat)
 case atStart=>
  refine ⟨0,.int .u32 0,.int .u32 0,.int .u32 0,.int .u32 0,.int .u32 0,.int .u32 0,.int .u32 0,.int .u32 0,rfl,by omega,?_⟩;have hsz:(w.alloc (.cells #[Value.int IntKind.u64 7640891576956012808,Value.int IntKind.u64 13503953896175478587,Value.int IntKind.u64 4354685564936845355,Value.int IntKind.u64 11912009170470909681,Value.int IntKind.u64 5840696475078001361,Value.int IntKind.u64 11170449401992604703,Value.int IntKind.u64 2270897969802886507,Value.int IntKind.u64 6620516959819538809] 224)).heap.size=w.heap.size+1:=by unfold World.alloc;rw [Array.size_push]
  refine ⟨?_,?_⟩
  ·rw [←hsz];exact Blk.new _ _ _
  ·exact ((Below.refl _ w).alloc (Nat.le_refl _) _).alloc (by omega) _
 case round=>
  obtain ⟨i,c0,c1,c2,c3,c4,c5,c6,c7,rfl,hi,HI⟩:=hrel;obtain ⟨⟨d0,d1,d2,d3,d4,d5,d6,d7⟩,hfz⟩:=HI.out.1.eight;have hlt:w.heap.size<wr.heap.size:=by have:=HI.out.1.lt;omega
  obtain rfl|rfl|rfl|rfl|rfl|rfl|rfl|rfl|rfl:i=0∨i=1∨i=2∨i=3∨i=4∨i=5∨i=6∨i=7∨i=8:=by omega
  ·have z0:=hfz 0;have i0:∀ w,(Instr.index 224 (.agg #[.int .u64 7640891576956012808,.int .u64 13503953896175478587,.int .u64 4354685564936845355,.int .u64 11912009170470909681,.int .u64 5840696475078001361,.int .u64 11170449401992604703,.int .u64 2270897969802886507,.int .u64 6620516959819538809]) (.int .i64 0)).run Tryz.prog w = .ok (.int .u64 7640891576956012808) w:=fun _=>by kernel_rfl
   go_wp2_with fail
   refine ⟨⟨1,_,_,_,_,_,_,_,_,rfl,by omega,⟨HI.out.1.set_ 0 _,HI.out.2.setCell (p:=⟨w.heap.size+1,0,none⟩) (Nat.le_succ _) _⟩⟩,by decide⟩
  ·have z1:=hfz 1;have i0:∀ w,(Instr.index 224 (.agg #[.int .u64 7640891576956012808,.int .u64 13503953896175478587,.int .u64 4354685564936845355,.int .u64 11912009170470909681,.int .u64 5840696475078001361,.int .u64 11170449401992604703,.int .u64 2270897969802886507,.int .u64 6620516959819538809]) (.int .i64 1)).run Tryz.prog w = .ok (.int .u64 13503953896175478587) w:=fun _=>by kernel_rfl
   go_wp2_with fail
   refine ⟨⟨2,_,_,_,_,_,_,_,_,rfl,by omega,⟨HI.out.1.set_ 1 _,HI.out.2.setCell (p:=⟨w.heap.size+1,1,none⟩) (Nat.le_succ _) _⟩⟩,by decide⟩
  ·have z2:=hfz 2;have i0:∀ w,(Instr.index 224 (.agg #[.int .u64 7640891576956012808,.int .u64 13503953896175478587,.int .u64 4354685564936845355,.int .u64 11912009170470909681,.int .u64 5840696475078001361,.int .u64 11170449401992604703,.int .u64 2270897969802886507,.int .u64 6620516959819538809]) (.int .i64 2)).run Tryz.prog w = .ok (.int .u64 4354685564936845355) w:=fun _=>by kernel_rfl
   go_wp2_with fail
   refine ⟨⟨3,_,_,_,_,_,_,_,_,rfl,by omega,⟨HI.out.1.set_ 2 _,HI.out.2.setCell (p:=⟨w.heap.size+1,2,none⟩) (Nat.le_succ _) _⟩⟩,by decide⟩
  ·have z3:=hfz 3;have i0:∀ w,(Instr.index 224 (.agg #[.int .u64 7640891576956012808,.int .u64 13503953896175478587,.int .u64 4354685564936845355,.int .u64 11912009170470909681,.int .u64 5840696475078001361,.int .u64 11170449401992604703,.int .u64 2270897969802886507,.int .u64 6620516959819538809]) (.int .i64 3)).run Tryz.prog w = .ok (.int .u64 11912009170470909681) w:=fun _=>by kernel_rfl
   go_wp2_with fail
   refine ⟨⟨4,_,_,_,_,_,_,_,_,rfl,by omega,⟨HI.out.1.set_ 3 _,HI.out.2.setCell (p:=⟨w.heap.size+1,3,none⟩) (Nat.le_succ _) _⟩⟩,by decide⟩
  ·have z4:=hfz 4;have i0:∀ w,(Instr.index 224 (.agg #[.int .u64 7640891576956012808,.int .u64 13503953896175478587,.int .u64 4354685564936845355,.int .u64 11912009170470909681,.int .u64 5840696475078001361,.int .u64 11170449401992604703,.int .u64 2270897969802886507,.int .u64 6620516959819538809]) (.int .i64 4)).run Tryz.prog w = .ok (.int .u64 5840696475078001361) w:=fun _=>by kernel_rfl
   go_wp2_with fail
   refine ⟨⟨5,_,_,_,_,_,_,_,_,rfl,by omega,⟨HI.out.1.set_ 4 _,HI.out.2.setCell (p:=⟨w.heap.size+1,4,none⟩) (Nat.le_succ _) _⟩⟩,by decide⟩
  ·have z5:=hfz 5;have i0:∀ w,(Instr.index 224 (.agg #[.int .u64 7640891576956012808,.int .u64 13503953896175478587,.int .u64 4354685564936845355,.int .u64 11912009170470909681,.int .u64 5840696475078001361,.int .u64 11170449401992604703,.int .u64 2270897969802886507,.int .u64 6620516959819538809]) (.int .i64 5)).run Tryz.prog w = .ok (.int .u64 11170449401992604703) w:=fun _=>by kernel_rfl
   go_wp2_with fail
   refine ⟨⟨6,_,_,_,_,_,_,_,_,rfl,by omega,⟨HI.out.1.set_ 5 _,HI.out.2.setCell (p:=⟨w.heap.size+1,5,none⟩) (Nat.le_succ _) _⟩⟩,by decide⟩
  ·have z6:=hfz 6;have i0:∀ w,(Instr.index 224 (.agg #[.int .u64 7640891576956012808,.int .u64 13503953896175478587,.int .u64 4354685564936845355,.int .u64 11912009170470909681,.int .u64 5840696475078001361,.int .u64 11170449401992604703,.int .u64 2270897969802886507,.int .u64 6620516959819538809]) (.int .i64 6)).run Tryz.prog w = .ok (.int .u64 2270897969802886507) w:=fun _=>by kernel_rfl
   go_wp2_with fail
   refine ⟨⟨7,_,_,_,_,_,_,_,_,rfl,by omega,⟨HI.out.1.set_ 6 _,HI.out.2.setCell (p:=⟨w.heap.size+1,6,none⟩) (Nat.le_succ _) _⟩⟩,by decide⟩
  ·have z7:=hfz 7;have i0:∀ w,(Instr.index 224 (.agg #[.int .u64 7640891576956012808,.int .u64 13503953896175478587,.int .u64 4354685564936845355,.int .u64 11912009170470909681,.int .u64 5840696475078001361,.int .u64 11170449401992604703,.int .u64 2270897969802886507,.int .u64 6620516959819538809]) (.int .i64 7)).run Tryz.prog w = .ok (.int .u64 6620516959819538809) w:=fun _=>by kernel_rfl
   go_wp2_with fail
   refine ⟨⟨8,_,_,_,_,_,_,_,_,rfl,by omega,⟨HI.out.1.set_ 7 _,HI.out.2.setCell (p:=⟨w.heap.size+1,7,none⟩) (Nat.le_succ _) _⟩⟩,by decide⟩
  ·go_wp2_with fail
   go_ret
   exact ⟨_,_,rfl,HI.out.2⟩
set_option maxHeartbeats 4000000 in
set_option maxRecDepth 100000 in
theorem zf5 (w:World):
  Calls Tryz.prog 52 #[.int .i64 256] w fun e w'=>e = .returned (.int .i64 32)∧Below w.heap.size w w':=by
 go_enter Tryz.func52,Tryz.ntmps52
 go_wp2_with fail
 refine (zct w).mono ?_;rintro e w1 ⟨t,p,rfl,hb⟩
 go_wp2_with fail
 go_ret
 exact ⟨rfl,hb⟩
end Go.Proofs.YtgmppconibklcaaGreatDoor

namespace Go.Proofs.YtgmppconibklcaaGreatDoor
open Go Go.RowKit
namespace Am
variable {gl:Nat→Option (List D)}
def alg256:List UInt8:=[50,46,49,54,46,56,52,48,46,49,46,49,48,49,46,51,46,52,46,50,46,49]
theorem zf4:OK gl 52 [iX 256] (.i .i64 32):=
 z0L rfl rfl z0I fun w vals hT hargs=>by
  obtain ⟨v,rfl,h⟩:=hargs.one_;have e:=RD.z16 h;subst e;refine (zf5 w).mono ?_;rintro e w' ⟨rfl,hb⟩;exact ⟨_,rfl,zal rfl,hb⟩
set_option maxHeartbeats 4000000 in
theorem zgo:OK gl 105 [iX 256] (.s ⟨#[50,46,49,54,46,56,52,48,46,49,46,49,48,49,46,51,46,52,46,50,46,49]⟩):=by
 refine z0k Tryz.func105 rfl (by show 1≤_;decide) ?_;unfold Tryz.f105;dsimp only;repeat' (first
  | (first|refine sq_ ?_|refine bk_ ?_)
  | ((first|refine rg_ fun Q hQ=>?_|refine if_ fun Q hQ=>?_|refine ct_ (by first|with_reducible assumption|assumption) ?_);simp -implicitDefEqProofs [*])
  | ((first|refine bs_ ?_ ?_|refine cs_ ?_ ?_)<;>(intro hc;have hb:=hc;(try simp only [hk_,ne_eq] at hc);(try have ⟨hc1,hc2⟩:_∧_:=hc);(try subst_vars))<;>first|contradiction|(exfalso;omega)|(simp -implicitDefEqProofs [*])|skip)
  | ((first|(refine atQ hQ ?_;clear hQ)|refine atQ (by assumption) ?_|refine z04 ?_|refine z06 ?_|refine z07 ?_);try simp only [sk_,if_true,if_false,↓reduceIte,Nat.reduceEqDiff])
  | (show EndK _ _ _ _ _ _ _ _;simp -implicitDefEqProofs [*])
  | ((simp (disch:=omega) only [if_pos,if_neg]);(try (simp -implicitDefEqProofs [*]))))
set_option maxHeartbeats 4000000 in
theorem ziS:OK gl 51 [sX ⟨#[50,46,49,54,46,56,52,48,46,49,46,49,48,49,46,51,46,52,46,50,46,49]⟩] (.i .i64 256):=by
 have c:=zgo (gl:=gl);generalize (⟨#[50,46,49,54,46,56,52,48,46,49,46,49,48,49,46,51,46,52,46,50,46,49]⟩:ByteArray)=a at c ⊢;refine z0k Tryz.func51 rfl (by show 1≤_;decide) ?_;unfold Tryz.f51;dsimp only;repeat' (first
  | (first|refine sq_ ?_|refine bk_ ?_)
  | ((first|refine rg_ fun Q hQ=>?_|refine if_ fun Q hQ=>?_|refine ct_ (by first|with_reducible assumption|assumption) ?_);simp -implicitDefEqProofs [*])
  | ((first|refine bs_ ?_ ?_|refine cs_ ?_ ?_)<;>(intro hc;have hb:=hc;(try simp only [hk_,ne_eq] at hc);(try have ⟨hc1,hc2⟩:_∧_:=hc);(try subst_vars))<;>first|contradiction|(exfalso;omega)|(simp -implicitDefEqProofs [*])|skip)
  | ((first|(refine atQ hQ ?_;clear hQ)|refine atQ (by assumption) ?_|refine z04 ?_|refine z06 ?_|refine z07 ?_);try simp only [sk_,if_true,if_false,↓reduceIte,Nat.reduceEqDiff])
  | (show EndK _ _ _ _ _ _ _ _;simp -implicitDefEqProofs [*])
  | ((simp (disch:=omega) only [if_pos,if_neg]);(try (simp -implicitDefEqProofs [*]))))
 refine ziC ?_;repeat' (first
  | (first|refine sq_ ?_|refine bk_ ?_)
  | ((first|refine rg_ fun Q hQ=>?_|refine if_ fun Q hQ=>?_|refine ct_ (by first|with_reducible assumption|assumption) ?_);simp -implicitDefEqProofs [*])
  | ((first|refine bs_ ?_ ?_|refine cs_ ?_ ?_)<;>(intro hc;have hb:=hc;(try simp only [hk_,ne_eq] at hc);(try have ⟨hc1,hc2⟩:_∧_:=hc);(try subst_vars))<;>first|contradiction|(exfalso;omega)|(simp -implicitDefEqProofs [*])|skip)
  | ((first|(refine atQ hQ ?_;clear hQ)|refine atQ (by assumption) ?_|refine z04 ?_|refine z06 ?_|refine z07 ?_);try simp only [sk_,if_true,if_false,↓reduceIte,Nat.reduceEqDiff])
  | (show EndK _ _ _ _ _ _ _ _;simp -implicitDefEqProofs [*])
  | ((simp (disch:=omega) only [if_pos,if_neg]);(try (simp -implicitDefEqProofs [*]))))
set_option maxHeartbeats 4000000 in
theorem zlS (im:List UInt8) (d2 d3 d4 d5 d6:D) (h:im.length=32):OK gl 14 [.agg [.d (.leaf (.string ⟨#[50,46,49,54,46,56,52,48,46,49,46,49,48,49,46,51,46,52,46,50,46,49]⟩)),.d (z05 im),.d d2,.d d3,.d d4,.d d5,.d d6]] (.b true):=by
 have c1:=ziS (gl:=gl);have c2:=zf4 (gl:=gl);generalize (⟨#[50,46,49,54,46,56,52,48,46,49,46,49,48,49,46,51,46,52,46,50,46,49]⟩:ByteArray)=a at c1 ⊢;refine z0k Tryz.func14 rfl (by show 1≤_;decide) ?_;unfold Tryz.f14;dsimp only;repeat' (first
  | (first|refine sq_ ?_|refine bk_ ?_)
  | ((first|refine rg_ fun Q hQ=>?_|refine if_ fun Q hQ=>?_|refine dr_ (id:=2) [1,3] [16,97] (by kernel_rfl) fun Q hQ=>?_|refine ct_ (by first|with_reducible assumption|assumption) ?_|refine cd_ (by first|with_reducible assumption|assumption) ?_ ?_);simp -implicitDefEqProofs [*])
  | ((first|refine bs_ ?_ ?_|refine cs_ ?_ ?_)<;>(intro hc;have hb:=hc;(try simp only [hk_,ne_eq] at hc);(try have ⟨hc1,hc2⟩:_∧_:=hc);(try subst_vars))<;>first|contradiction|(exfalso;omega)|(simp -implicitDefEqProofs [*])|skip)
  | ((first|(refine atQ hQ ?_;clear hQ)|refine atQ (by assumption) ?_|refine z04 ?_|refine z06 ?_|refine z07 ?_);try simp only [sk_,if_true,if_false,↓reduceIte,Nat.reduceEqDiff])
  | (first|exact z0f|refine cn_ (by decide) ?_|refine cc_ (by intro e1 e2 e3;simp_all) ?_|refine And.intro (by decide +kernel) ?_)
  | (show EndK _ _ _ _ _ _ _ _;simp -implicitDefEqProofs [*])
  | ((simp (disch:=omega) only [if_pos,if_neg]);(try (simp -implicitDefEqProofs [*]))))
end Am
end Go.Proofs.YtgmppconibklcaaGreatDoor

namespace Go.Proofs.YtgmppconibklcaaGreatDoor
open Go Go.RowKit
namespace Am
variable {gl:Nat→Option (List D)}
theorem dCtx1 (a:Nd) (l:List Nd) (hz:Dr.wts (a::l)≤10000000):z0M Tryz.prog gl Tabs 35 [iX 2,iX 0,rX (ndR (a::l))] [] (.e (.agg [.d (.leaf (.int .i64 2)),.d (.leaf (.int .i64 0)),.d (.leaf (.bool true)),.nilS,.gr 14 5 (ndL (a::l))])) [.own 61 5 (l.length+1)] []:=dCons 2 0 (a::l) hz
theorem dTrue:OK gl 34 [iX 1,.one (.d (.row 1 [.leaf (.int .u8 255)]))] (.e (nX Rq.z2L)):=zfU 1 [255] (by decide)
theorem zdy (p:UInt8) (ps:List UInt8):((⟨(p::ps).toArray⟩:ByteArray)==⟨#[]⟩)=false:=by
 show ((p::ps).toArray==#[])=false;simp
set_option maxHeartbeats 40000000 in
theorem z7a (q:Rq.Req) (ls:List Nat) (hf:Rq.zio q) (hL:Nt.Lb ls) (hv:Nt.vl ls=q.nonce) (hls:ls.length≤100000):OK gl 8 [reqY q ls] (.tup [rX (z05 (if Rq.z0q q then (Dr.put (Rq.node q)).getD [] else [])),iX (if Rq.z0q q then 0 else 60)]):=by
 have hW:Rq.z0q q=true→Fine (Rq.node q)∧Dr.write (Rq.node q)=((Dr.put (Rq.node q)).getD [],0):=fun hr=>by
  have h1:=hf.node hr;have h2:=Rq.zly (Rq.node q);obtain ⟨o,ho,hwo,_⟩:=Rq.z8V hr (by unfold Rq.z2z;have h1:=hf.alg;have h2:=hf.impr;have h3:=hf.pol;have h4:=hf.sz;omega);exact ⟨⟨by omega,by omega⟩,by rw [hwo,ho];rfl⟩
 obtain ⟨h1,h2,h3,h4,h5,h6,h7,_⟩:=hf;obtain ⟨alg,impr,pol,has,nonce,cert,exts⟩:=q;simp only at h1 h2 h3 h4 h5 h6 h7 hv;have cI:=zdx (gl:=gl) alg impr (by omega) (by omega);have cE:=zhC (gl:=gl) exts (fun e he=>⟨h4 e he,h5 e he⟩) (by omega);have cN:=zki (gl:=gl) has ls hL (by omega);rw [hv] at cN;have cA:=dNat (gl:=gl) ls hL (by omega);rw [hv] at cA;have c1:=dInt (gl:=gl) 1 (by decide) (by decide);have hz2:Dr.wts [Dr.intN 1,Rq.impN alg impr]≤10000000:=by
  have g1:=Rq.zdo alg impr;have g2:Dr.wt (Dr.intN 1)≤100:=by decide
  simp only [Dr.wts];omega
 have cS:=ziP (gl:=gl) _ _ hz2;have cO:=tOid (gl:=gl) pol (by omega);have hz3:Dr.wts (exts.map Rq.exN)≤10000000:=by have g1:=Rq.zg9 exts;omega
 have hlen:exts.length≤10000:=h6;clear h1 h2 h3 h4 h5 h6 h7 hL hv hls hz2;unfold z4K at cE;by_cases hr:Rq.z0q ⟨alg,impr,pol,has,nonce,cert,exts⟩=true
 ·have hp:=hr;unfold Rq.z0q at hp;simp only [Bool.and_eq_true] at hp;obtain ⟨⟨⟨hA,hO⟩,hN⟩,hE⟩:=hp;rw [hA] at cI;rw [hE] at cE;rw [hN] at cN;simp only [if_true] at cE;obtain ⟨hW1,hW2⟩:=hW hr;have cW:∀ (c t:Int) (k:Bool) (b:List UInt8) (l:List Nd),Nd.mk c t k b l=Rq.node ⟨alg,impr,pol,has,nonce,cert,exts⟩→OK gl 36 [.agg [.d (.leaf (.int .i64 c)),.d (.leaf (.int .i64 t)),.d (.leaf (.bool k)),.d (z05 b),.d (ndR l)]] (.tup [rX (z05 ((Dr.put (Rq.node ⟨alg,impr,pol,has,nonce,cert,exts⟩)).getD [])),iX 0]):=fun c t k b l h=>by
   have:=z6T (gl:=gl) _ hW1 c t k b l h
   rwa [hW2] at this
  simp only [hr,if_true];clear hW hW1 hW2 hr hA hN hE;generalize (Dr.put (Rq.node ⟨alg,impr,pol,has,nonce,cert,exts⟩)).getD []=out at *;have cW:∀ (c t:Int) (k:Bool) (b:List UInt8) (l:List Nd),Nd.mk c t k b l=Dr.seq (Dr.intN 1::Rq.impN alg impr::Rq.z1y ⟨alg,impr,pol,has,nonce,cert,exts⟩)→_:=cW;have hC:∀ a l,exts.map Rq.exN=a::l→z0M Tryz.prog gl Tabs 35 [iX 2,iX 0,rX (ndR (a::l))] [] (.e (.agg [.d (.leaf (.int .i64 2)),.d (.leaf (.int .i64 0)),.d (.leaf (.bool true)),.nilS,.gr 14 5 (ndL (a::l))])) [.own 61 5 (l.length+1)] []:=fun a l h=>dCtx1 a l (by rw [←h];exact hz3)
  clear hz3;rcases exts with _|⟨e,es⟩<;>rcases pol with _|⟨p,ps⟩<;>cases has<;>cases cert
  all_goals
   (try have hp:=zdy p ps)
   (try have hO:Rq.z2B (p::ps)=true:=hO)
   (try rw [hO] at cO)
   (try have cC:=hC _ _ rfl)
   clear hC;refine z0k Tryz.func8 rfl (by show 1≤_;decide) ?_;unfold Tryz.f8;dsimp only;repeat' (first
    | (first|refine sq_ ?_|refine bk_ ?_)
    | ((first|refine rg_ fun Q hQ=>?_|refine if_ fun Q hQ=>?_|refine dr_ (id:=5) [1,4,6] [16,64,257,353,577] (by kernel_rfl) fun Q hQ=>?_|refine dr_ (id:=12) [1,6,8] [16,128,257,353,577,625,656,673,785,912,928] (by kernel_rfl) fun Q hQ=>?_|refine dr_ (id:=14) [6,8] [128,257,353,577,625,656,673,785,912,928,1057,1072,1088] (by kernel_rfl) fun Q hQ=>?_|refine dr_ (id:=16) [6,8] [128,257,353,577,625,656,673,785,912,928,1057,1072,1088,1184,1201,1216,1232] (by kernel_rfl) fun Q hQ=>?_|refine ct_ (by first|with_reducible assumption|assumption) ?_|refine cd_ (by first|with_reducible assumption|assumption) ?_ ?_|refine ct_ (dTrue) ?_|refine cd_ (dTrue) ?_ ?_|refine ct_ (cW _ _ _ _ _ (by simp [Rq.z1y,Rq.opt,Dr.seq,Rq.ctxN])) ?_|refine cd_ (cW _ _ _ _ _ (by simp [Rq.z1y,Rq.opt,Dr.seq,Rq.ctxN])) ?_ ?_);simp -implicitDefEqProofs [*,z0e,Rq.z1y,Rq.opt,Dr.seq,Rq.ctxN])
    | ((first|refine bs_ ?_ ?_|refine cs_ ?_ ?_)<;>(intro hc;have hb:=hc;(try simp only [hk_,ne_eq] at hc);(try have ⟨hc1,hc2⟩:_∧_:=hc);(try subst_vars))<;>first|contradiction|(exfalso;omega)|(simp -implicitDefEqProofs [*,z0e,Rq.z1y,Rq.opt,Dr.seq,Rq.ctxN])|skip)
    | ((first|(refine atQ hQ ?_;clear hQ)|refine atQ (by assumption) ?_|refine z04 ?_|refine z06 ?_|refine z07 ?_);try simp only [sk_,if_true,if_false,↓reduceIte,Nat.reduceEqDiff])
    | (first|exact z0f|refine cn_ (by decide) ?_|refine cc_ (by intro e1 e2 e3;simp_all) ?_|refine And.intro (by decide +kernel) ?_)
    | (show EndK _ _ _ _ _ _ _ _;simp -implicitDefEqProofs [*,z0e,Rq.z1y,Rq.opt,Dr.seq,Rq.ctxN])
    | ((simp (disch:=omega) only [if_pos,if_neg]);(try (simp -implicitDefEqProofs [*,z0e,Rq.z1y,Rq.opt,Dr.seq,Rq.ctxN]))))
 ·have hr:Rq.z0q ⟨alg,impr,pol,has,nonce,cert,exts⟩=false:=by simpa using hr
  have hpo:Rq.z3O alg impr=true→Rq.z0Q exts=true→Rq.z0x has nonce=true→∃ p ps,pol=p::ps∧Rq.z2B (p::ps)=false:=fun a b c=>by
   unfold Rq.z0q at hr;simp only [a,b,c,Bool.true_and,Bool.and_true] at hr;cases pol with
   | nil=>cases hr
   | cons p ps=>exact ⟨p,ps,rfl,by simpa using hr⟩
  simp only [hr,Bool.false_eq_true,if_false];clear hW hz3 cA hr;cases hA:Rq.z3O alg impr<;>cases hE:Rq.z0Q exts<;>cases hN:Rq.z0x has nonce;all_goals
   rw [hA] at cI;rw [hE] at cE;rw [hN] at cN;simp only [if_true,Bool.false_eq_true,if_false] at cE
   (try (have q:=hpo hA hE hN;obtain ⟨p,ps,rfl,hO⟩:=q;have hp:=zdy p ps;rw [hO] at cO;clear hO))
   clear hpo hA hE hN;refine z0k Tryz.func8 rfl (by show 1≤_;decide) ?_;unfold Tryz.f8;dsimp only;repeat' (first
    | (first|refine sq_ ?_|refine bk_ ?_)
    | ((first|refine rg_ fun Q hQ=>?_|refine if_ fun Q hQ=>?_|refine dr_ (id:=5) [1,4,6] [16,64,257,353,577] (by kernel_rfl) fun Q hQ=>?_|refine dr_ (id:=12) [1,6,8] [16,128,257,353,577,625,656,673,785,912,928] (by kernel_rfl) fun Q hQ=>?_|refine dr_ (id:=14) [6,8] [128,257,353,577,625,656,673,785,912,928,1057,1072,1088] (by kernel_rfl) fun Q hQ=>?_|refine dr_ (id:=16) [6,8] [128,257,353,577,625,656,673,785,912,928,1057,1072,1088,1184,1201,1216,1232] (by kernel_rfl) fun Q hQ=>?_|refine ct_ (by first|with_reducible assumption|assumption) ?_|refine cd_ (by first|with_reducible assumption|assumption) ?_ ?_);simp -implicitDefEqProofs [*,z0e])
    | ((first|refine bs_ ?_ ?_|refine cs_ ?_ ?_)<;>(intro hc;have hb:=hc;(try simp only [hk_,ne_eq] at hc);(try have ⟨hc1,hc2⟩:_∧_:=hc);(try subst_vars))<;>first|contradiction|(exfalso;omega)|(simp -implicitDefEqProofs [*,z0e])|skip)
    | ((first|(refine atQ hQ ?_;clear hQ)|refine atQ (by assumption) ?_|refine z04 ?_|refine z06 ?_|refine z07 ?_);try simp only [sk_,if_true,if_false,↓reduceIte,Nat.reduceEqDiff])
    | (first|exact z0f|refine cn_ (by decide) ?_|refine cc_ (by intro e1 e2 e3;simp_all) ?_|refine And.intro (by decide +kernel) ?_)
    | (show EndK _ _ _ _ _ _ _ _;simp -implicitDefEqProofs [*,z0e])
    | ((simp (disch:=omega) only [if_pos,if_neg]);(try (simp -implicitDefEqProofs [*,z0e]))))
end Am
end Go.Proofs.YtgmppconibklcaaGreatDoor

