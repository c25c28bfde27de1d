/- Part of the proof of TspBack. No condition: lemmas alone. -/
import Derived.Test.YtgmppconibklcaaGreatDoorM32
import Derived.Test.YtgmppconibklcaaGreatDoorM37
set_option linter.unusedVariables false
set_option linter.unusedSimpArgs false
set_option maxRecDepth 100000
namespace Go.Proofs.YtgmppconibklcaaGreatDoor
open Go Go.RowKit
namespace Am
variable {gl:Nat→Option (List D)}
def z22 (n:Int):Bool:=n==0||n==2||n==5||n==14||n==15||n==16||n==25
set_option maxHeartbeats 4000000 in
theorem z6l (n:Int):OK gl 58 [iX n] (.b (z22 n)):=by
 refine z0k Tryz.func58 rfl (by show 1≤_;decide) ?_;unfold Tryz.f58;dsimp only;repeat' (first
  | (first|refine sq_ ?_|refine bk_ ?_)
  | ((first|refine rg_ fun Q hQ=>?_|refine if_ fun Q hQ=>?_|refine ct_ (by first|with_reducible assumption|assumption) ?_);simp -implicitDefEqProofs [*,z22])
  | ((first|refine bs_ ?_ ?_|refine cs_ ?_ ?_)<;>(intro hc;have hb:=hc;(try simp only [hk_,ne_eq] at hc);(try have ⟨hc1,hc2⟩:_∧_:=hc);(try subst_vars))<;>first|contradiction|(exfalso;omega)|(simp -implicitDefEqProofs [*,z22])|skip)
  | ((first|(refine atQ hQ ?_;clear hQ)|refine atQ (by assumption) ?_|refine z04 ?_|refine z06 ?_|refine z07 ?_);try simp only [sk_,if_true,if_false,↓reduceIte,Nat.reduceEqDiff])
  | (show EndK _ _ _ _ _ _ _ _;simp -implicitDefEqProofs [*,z22])
  | ((simp (disch:=omega) only [if_pos,if_neg]);(try (simp -implicitDefEqProofs [*,z22]))))
theorem z1i {n:Int} (h:z22 n=true):n=0∨n=2∨n=5∨n=14∨n=15∨n=16∨n=25:=by
 unfold z22 at h;simp only [Bool.or_eq_true,beq_iff_eq] at h;omega
abbrev rspX (s f:Int) (k:List UInt8):E:= .agg [.d (.leaf (.int .i64 s)),.d (.leaf (.int .i64 f)),.d (z05 k)]
@[simp] theorem size_mk' (l:List UInt8):(⟨l.toArray⟩:ByteArray).size=l.length:=by simp [ByteArray.size]
def z1S (f:Int):List UInt8:=
 if f=0 then [7,128] else if f=2 then [5,32] else if f=5 then [2,4] else if f=14 then [1,0,2] else if f=15 then [0,0,1] else if f=16 then [7,0,0,128] else [6,0,0,0,64]
def rejN (f:Int):Nd:=Dr.seq [Dr.seq [Dr.intN 2,Dr.prim 3 (z1S f)]]
def rejB (f:Int):List UInt8:=if z22 f=true then (Dr.write (rejN f)).1 else []
set_option maxHeartbeats 4000000 in
theorem bEqual (a b:List UInt8):OK gl 120 [rX (z05 a),rX (z05 b)] (.b (a==b)):=by
 refine z0k Tryz.func120 rfl (by show 2≤_;decide) ?_;unfold Tryz.f120;dsimp only;repeat' (first
  | (first|refine sq_ ?_|refine bk_ ?_)
  | ((first|refine rg_ fun Q hQ=>?_|refine if_ fun Q hQ=>?_|refine ct_ (by first|with_reducible assumption|assumption) ?_);simp -implicitDefEqProofs [*])
  | ((first|refine bs_ ?_ ?_|refine cs_ ?_ ?_)<;>(intro hc;have hb:=hc;(try simp only [hk_,ne_eq] at hc);(try have ⟨hc1,hc2⟩:_∧_:=hc);(try subst_vars))<;>first|contradiction|(exfalso;omega)|(simp -implicitDefEqProofs [*])|skip)
  | ((first|(refine atQ hQ ?_;clear hQ)|refine atQ (by assumption) ?_|refine z04 ?_|refine z06 ?_|refine z07 ?_);try simp only [sk_,if_true,if_false,↓reduceIte,Nat.reduceEqDiff])
  | (show EndK _ _ _ _ _ _ _ _;simp -implicitDefEqProofs [*])
  | ((simp (disch:=omega) only [if_pos,if_neg]);(try (simp -implicitDefEqProofs [*]))))
theorem zhz {n:Nd} (h1:decide (Dr.wt n≤9000000)=true) (h2:decide (Dr.mx n≤40000)=true):Fine n:=⟨of_decide_eq_true h1,of_decide_eq_true h2⟩
set_option maxHeartbeats 40000000 in
theorem zaq (f:Int) (h:z22 f=false):OK gl 16 [rspX 2 f []] (.tup [rX (z05 []),iX 60]):=by
 have c1:=z6l (gl:=gl) f;rw [h] at c1;refine z0k Tryz.func16 rfl (by show 1≤_;decide) ?_;unfold Tryz.f16;dsimp only;repeat' (first
  | (first|refine sq_ ?_|refine bk_ ?_)
  | ((first|refine rg_ fun Q hQ=>?_|refine if_ fun Q hQ=>?_|refine dr_ (id:=7) [4] [64,257,337] (by kernel_rfl) fun Q hQ=>?_|refine ct_ (by first|with_reducible assumption|assumption) ?_|refine cd_ (by first|with_reducible assumption|assumption) ?_ ?_);simp -implicitDefEqProofs [*])
  | ((first|refine bs_ ?_ ?_|refine cs_ ?_ ?_)<;>(intro hc;have hb:=hc;(try simp only [hk_,ne_eq] at hc);(try have ⟨hc1,hc2⟩:_∧_:=hc);(try subst_vars))<;>first|contradiction|(exfalso;omega)|(simp -implicitDefEqProofs [*])|skip)
  | ((first|(refine atQ hQ ?_;clear hQ)|refine atQ (by assumption) ?_|refine z04 ?_|refine z06 ?_|refine z07 ?_);try simp only [sk_,if_true,if_false,↓reduceIte,Nat.reduceEqDiff])
  | (first|exact z0f|refine cn_ (by decide) ?_|refine cc_ (by intro e1 e2 e3;simp_all) ?_|refine And.intro (by decide +kernel) ?_)
  | (show EndK _ _ _ _ _ _ _ _;simp -implicitDefEqProofs [*])
  | ((simp (disch:=omega) only [if_pos,if_neg]);(try (simp -implicitDefEqProofs [*]))))
theorem int2:Dr.intOf (Dr.intN 2)=some 2:=Dr.z3v (by decide) (by decide)
theorem fine2:Fine (Dr.intN 2):=zhz (by decide +kernel) (by decide +kernel)
def zgE (f:Int):List D:=
 if f=0 then [.leaf (.int .u8 7),.leaf (.int .u8 128)] else if f=2 then [.leaf (.int .u8 5),.leaf (.int .u8 32)] else if f=5 then [.leaf (.int .u8 2),.leaf (.int .u8 4)] else if f=14 then [.leaf (.int .u8 1),.leaf (.int .u8 0),.leaf (.int .u8 2)] else if f=15 then [.leaf (.int .u8 0),.leaf (.int .u8 0),.leaf (.int .u8 1)] else if f=16 then [.leaf (.int .u8 7),.leaf (.int .u8 0),.leaf (.int .u8 0),.leaf (.int .u8 128)] else [.leaf (.int .u8 6),.leaf (.int .u8 0),.leaf (.int .u8 0),.leaf (.int .u8 0),.leaf (.int .u8 64)]
theorem rejW {f:Int} (h:z22 f=true):(Dr.write (rejN f)).2=0:=by
 rcases z1i h with rfl|rfl|rfl|rfl|rfl|rfl|rfl<;>decide +kernel
theorem rejBe {f:Int} (h:z22 f=true):(Dr.write (rejN f)).1=rejB f:=by
 unfold rejB;rw [if_pos h]
theorem rejF {f:Int} (h:z22 f=true):Fine (rejN f):=by
 rcases z1i h with rfl|rfl|rfl|rfl|rfl|rfl|rfl<;>exact zhz (by decide +kernel) (by decide +kernel)
theorem rejP {f:Int} (h:z22 f=true):OK gl 34 [iX 3,.one (.d (.row 1 (zgE f)))] (.e (nX (Dr.prim 3 (z1S f)))):=by
 have e:D.row 1 (zgE f)=z05 (z1S f):=by
  rcases z1i h with rfl|rfl|rfl|rfl|rfl|rfl|rfl<;>rfl
 rw [e];exact zfU 3 (z1S f) (by rcases z1i h with rfl|rfl|rfl|rfl|rfl|rfl|rfl<;>decide)
set_option maxHeartbeats 400000000 in
theorem z4a {f:Int} (h:z22 f=true):OK gl 16 [rspX 2 f []] (.tup [rX (z05 (rejB f)),iX 0]):=by
 have c1:=z6l (gl:=gl) f;rw [h] at c1;have c2:=dInt (gl:=gl) 2 (by decide) (by decide);have c3:=rejP (gl:=gl) h;have c4:=z6T (gl:=gl) (rejN f) (rejF h);rw [rejW h,rejBe h] at c4;have s1:=ziP (gl:=gl) (Dr.intN 2) [Dr.prim 3 (z1S f)] (by rcases z1i h with rfl|rfl|rfl|rfl|rfl|rfl|rfl<;>decide +kernel);have s2:=ziP (gl:=gl) (Dr.seq [Dr.intN 2,Dr.prim 3 (z1S f)]) [] (by rcases z1i h with rfl|rfl|rfl|rfl|rfl|rfl|rfl<;>decide +kernel);rcases z1i h with rfl|rfl|rfl|rfl|rfl|rfl|rfl;all_goals
  clear h;simp only [z1S,zgE,Int.reduceEq,↓reduceIte] at c3 s1 s2;refine z0k Tryz.func16 rfl (by show 1≤_;decide) ?_;unfold Tryz.f16;dsimp only;repeat' (first
   | (first|refine sq_ ?_|refine bk_ ?_)
   | ((first|refine rg_ fun Q hQ=>?_|refine if_ fun Q hQ=>?_|refine dr_ (id:=7) [4] [64,257,337] (by kernel_rfl) fun Q hQ=>?_|refine ct_ (by first|with_reducible assumption|assumption) ?_|refine cd_ (by first|with_reducible assumption|assumption) ?_ ?_|refine ct_ (c4 _ _ _ _ _ rfl) ?_|refine cd_ (c4 _ _ _ _ _ rfl) ?_ ?_);simp -implicitDefEqProofs [*,z0e])
   | ((first|refine bs_ ?_ ?_|refine cs_ ?_ ?_)<;>(intro hc;have hb:=hc;(try simp only [hk_,ne_eq] at hc);(try have ⟨hc1,hc2⟩:_∧_:=hc);(try subst_vars))<;>first|contradiction|(exfalso;omega)|(simp -implicitDefEqProofs [*,z0e])|skip)
   | ((first|(refine atQ hQ ?_;clear hQ)|refine atQ (by assumption) ?_|refine z04 ?_|refine z06 ?_|refine z07 ?_);try simp only [sk_,if_true,if_false,↓reduceIte,Nat.reduceEqDiff])
   | (first|exact z0f|refine cn_ (by decide) ?_|refine cc_ (by intro e1 e2 e3;simp_all) ?_|refine And.intro (by decide +kernel) ?_)
   | (show EndK _ _ _ _ _ _ _ _;simp -implicitDefEqProofs [*,z0e])
   | ((simp (disch:=omega) only [if_pos,if_neg]);(try (simp -implicitDefEqProofs [*,z0e]))))
set_option maxHeartbeats 400000000 in
theorem zgx {f:Int} (h:z22 f=true):OK gl 65 [nX (rejN f)] (.tup [rspX 2 f [],bX true]):=by
 have c1:=zi0 (gl:=gl) (Dr.intN 2) fine2;rw [int2] at c1;have c2:=z4a (gl:=gl) h;have c4:=z6T (gl:=gl) (rejN f) (rejF h);rw [rejW h,rejBe h] at c4;have cE:=bEqual (gl:=gl) (rejB f) (rejB f);simp only [beq_self_eq_true] at cE;have q1:sq (.mk 0 16 true [] [.mk 0 16 true [] [Dr.intN 2,.mk 0 3 false (z1S f) []]]) 1 2=true:=rfl;have q2:sq (.mk 0 16 true [] [Dr.intN 2,.mk 0 3 false (z1S f) []]) 1 2=true:=rfl;have s1:=z2V (gl:=gl) (.mk 0 16 true [] [.mk 0 16 true [] [Dr.intN 2,.mk 0 3 false (z1S f) []]]) 1 2;have s2:=z2V (gl:=gl) (.mk 0 16 true [] [Dr.intN 2,.mk 0 3 false (z1S f) []]) 1 2;have s3:=z9Q (gl:=gl) (.mk 0 3 false (z1S f) []) 3;rw [q1] at s1;rw [q2] at s2;rw [show rejN f = .mk 0 16 true [] [.mk 0 16 true [] [Dr.intN 2,.mk 0 3 false (z1S f) []]] from rfl] at c4 ⊢;generalize rejB f=rb at *;rcases z1i h with rfl|rfl|rfl|rfl|rfl|rfl|rfl;all_goals
  clear h q1 q2;simp only [z1S,Int.reduceEq,↓reduceIte] at c4 s1 s2 s3 ⊢;refine z0k Tryz.func65 rfl (by show 1≤_;decide) ?_;unfold Tryz.f65;dsimp only;repeat' (first
   | (first|refine sq_ ?_|refine bk_ ?_)
   | ((first|refine rg_ fun Q hQ=>?_|refine if_ fun Q hQ=>?_|refine dr_ (id:=11) [1,2,5,6,7] [16,32,96,112,209,321,513,737,1041] (by kernel_rfl) fun Q hQ=>?_|refine dr_ (id:=14) [2,5,6,8,9,10,11] [32,96,209,321,513,737,1041,1521,1601] (by kernel_rfl) fun Q hQ=>?_|refine ct_ (by first|with_reducible assumption|assumption) ?_|refine cd_ (by first|with_reducible assumption|assumption) ?_ ?_|refine ct_ (c4 _ _ _ _ _ rfl) ?_|refine cd_ (c4 _ _ _ _ _ rfl) ?_ ?_);simp -implicitDefEqProofs [*])
   | ((first|refine bs_ ?_ ?_|refine cs_ ?_ ?_)<;>(intro hc;have hb:=hc;(try simp only [hk_,ne_eq] at hc);(try have ⟨hc1,hc2⟩:_∧_:=hc);(try subst_vars))<;>first|contradiction|(exfalso;omega)|(simp -implicitDefEqProofs [*])|skip)
   | ((first|(refine atQ hQ ?_;clear hQ)|refine atQ (by assumption) ?_|refine z04 ?_|refine z06 ?_|refine z07 ?_);try simp only [sk_,if_true,if_false,↓reduceIte,Nat.reduceEqDiff])
   | (first|exact z0f|refine cn_ (by decide) ?_|refine cc_ (by intro e1 e2 e3;simp_all) ?_|refine And.intro (by decide +kernel) ?_)
   | (show EndK _ _ _ _ _ _ _ _;simp -implicitDefEqProofs [*])
   | ((simp (disch:=omega) only [if_pos,if_neg]);(try (simp -implicitDefEqProofs [*]))))
  all_goals decide
end Am
end Go.Proofs.YtgmppconibklcaaGreatDoor

